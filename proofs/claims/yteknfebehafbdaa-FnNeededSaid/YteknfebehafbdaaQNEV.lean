/- Plain theorems of this claim. Their conditions stand with each. -/
import Derived.OpenShut
import Derived.Test.YteknfebehafbdaaB0
import Derived.Test.YteknfebehafbdaaH4
import Derived.Test.YteknfebehafbdaaK0
import Derived.Test.YteknfebehafbdaaQNE0
import Derived.Test.YteknfebehafbdaaQNE1
namespace Go.Proofs.Yteknfebehafbdaa.V
open Go.RowKit Go.Proofs.Yteknfebehafbdaa.K Go.Proofs.Yteknfebehafbdaa.Bx Go.Proofs.YteknfebehafbdaaW.PrintWords Go.Proofs.YteknfebehafbdaaW.PrintLast
set_option linter.unusedVariables false
set_option linter.unusedSimpArgs false

theorem ev_if {α : Type} {c : Prop} [Decidable c] {g f : Nat → Option α} {r : α} (h : c) (k : Ev g r) : Ev (fun n => if c then g n else f n) r := Ev.congr (fun n => if_pos h) k
theorem ev_else {α : Type} {c : Prop} [Decidable c] {g f : Nat → Option α} {r : α} (h : ¬ c) (k : Ev f r) : Ev (fun n => if c then g n else f n) r := Ev.congr (fun n => if_neg h) k
theorem ev_some {α β : Type} {a : α} {f : Nat → α → Option β} {r : β} (k : Ev (fun n => f n a) r) : Ev (fun n => (some a).bind (f n)) r := k
theorem ev_eq {α β : Type} {g : Option α} {a : α} {f : Nat → α → Option β} {r : β} (h : g = some a) (k : Ev (fun n => f n a) r) : Ev (fun n => g.bind (f n)) r := by rw [h]; exact k
theorem w1 {i : Nat} (h : i < 2000000) : wrap64 ((i : Int) + 1) = ((i + 1 : Nat) : Int) := by unfold wrap64; omega
theorem rd_nat (l : List Int) (i : Nat) : rd l (i : Int) = l.getD i 0 := by unfold rd; rw [Int.toNat_natCast]
theorem rd58 (l : List S58) (i : Nat) : rd_T58 l (i : Int) = l.getD i z58 := by unfold rd_T58; rw [Int.toNat_natCast]
/-- The test of code, for both. -/
def cOk (l : List S58) : Bool := decide (l.length ≤ 16) && (List.range l.length).all fun (j : Nat) => stOk (rd_T58 l (j : Int))
theorem iValid (k : Nat) (l : List S58) : impl_ValidCode.f k l = some (cOk l) := rfl
theorem cOk_len {l : List S58} (h : cOk l = true) : l.length ≤ 16 := by
  unfold cOk at h
  rw [Bool.and_eq_true] at h
  exact of_decide_eq_true h.1
theorem cellB_is {n : Int} : cellB n = true ↔ 0 ≤ n ∧ n ≤ 31 := by unfold cellB; exact decide_eq_true_iff
theorem cOk_at {l : List S58} (h : cOk l = true) {j : Nat} (hj : j < l.length) : OpOk (rd_T58 l (j : Int)).f0 ∧ (0 ≤ (rd_T58 l (j : Int)).f1 ∧ (rd_T58 l (j : Int)).f1 ≤ 31) ∧ (0 ≤ (rd_T58 l (j : Int)).f2 ∧ (rd_T58 l (j : Int)).f2 ≤ 31) ∧ (0 ≤ (rd_T58 l (j : Int)).f3 ∧ (rd_T58 l (j : Int)).f3 ≤ 31) := by
  unfold cOk at h
  rw [Bool.and_eq_true, List.all_eq_true] at h
  have := h.2 j (List.mem_range.mpr hj)
  unfold stOk at this
  simp only [Bool.and_eq_true] at this
  exact ⟨of_decide_eq_true this.1, cellB_is.mp this.2.1, cellB_is.mp this.2.2.1, cellB_is.mp this.2.2.2⟩
theorem set_has (m : Nat → Bool) {n : Int} (h0 : 0 ≤ n) (h1 : n ≤ 31) : (setTo m 32).any (fun x => decide (x = n)) = m n.toNat := by
  rw [Bool.eq_iff_iff, List.any_eq_true]
  unfold setTo
  constructor
  · rintro ⟨x, hx, he⟩
    obtain ⟨i, hi, rfl⟩ := List.mem_map.mp hx
    have := of_decide_eq_true he
    rw [← this, Int.toNat_natCast]
    exact (List.mem_filter.mp hi).2
  · intro h
    refine ⟨n, List.mem_map.mpr ⟨n.toNat, List.mem_filter.mpr ⟨List.mem_range.mpr (by omega), h⟩, by omega⟩, by simp⟩
/-- The cells behind the first i statements. -/
def runOf (b : Int) (l : List S58) (c : List Int) : Nat → List Int
  | 0 => c
  | i + 1 => (runOf b l c i).set (rd_T58 l (i : Int)).f1.toNat (res (rd_T58 l (i : Int)).f0 b (rd (runOf b l c i) (rd_T58 l (i : Int)).f2) (rd (runOf b l c i) (rd_T58 l (i : Int)).f3))
theorem runOf_len (b : Int) (l : List S58) (c : List Int) (i : Nat) : (runOf b l c i).length = c.length := by
  induction i with
  | zero => rfl
  | succ i ih => simp [runOf, ih]
theorem runOf_words {b : Int} {l : List S58} {c : List Int} (hv : cOk l = true) (hc : Words b c) (h32 : c.length = 32) : ∀ i, i ≤ l.length → Words b (runOf b l c i) := by
  intro i
  induction i with
  | zero => intro _; exact hc
  | succ i ih =>
    intro hi x hx
    have h := ih (by omega)
    obtain ⟨_, ⟨d0, d1⟩, ⟨a0, a1⟩, b0, b1⟩ := cOk_at hv (by omega : i < l.length)
    have hn := runOf_len b l c i
    rcases List.mem_or_eq_of_mem_set hx with h1 | h1
    · exact h x h1
    · rw [h1]
      exact res_word (h _ (rd_mem a0 (by omega))) (h _ (rd_mem b0 (by omega)))
theorem iRun {b : Int} {l : List S58} {c : List Int} (hv : cOk l = true) (hc : Words b c) (h32 : c.length = 32) (hl : l.length ≤ 1048576) : Ev (fun k => impl_run.l0 k b c l (l.length : Int) 0) (runOf b l c l.length) := by
  have key : ∀ d i : Nat, i + d = l.length → Ev (fun k => impl_run.l0 k b (runOf b l c i) l (l.length : Int) (i : Int)) (runOf b l c l.length) := by
    intro d
    induction d with
    | zero =>
      intro i hi
      obtain rfl : i = l.length := by omega
      refine ⟨1, fun k hk => ?_⟩
      obtain ⟨k, rfl⟩ : ∃ m, k = m + 1 := ⟨k - 1, by omega⟩
      simp only [impl_run.l0]
      rw [if_neg (by omega)]
    | succ d ih =>
      intro i hi
      obtain ⟨ho, ⟨d0, d1⟩, ⟨a0, a1⟩, b0, b1⟩ := cOk_at hv (by omega : i < l.length)
      have hn := runOf_len b l c i
      have hw := runOf_words hv hc h32 i (by omega)
      refine Ev.step (fun k => ?_) (ih (i + 1) (by omega))
      simp only [impl_run.l0]
      rw [if_pos (by omega), if_pos (by omega), if_pos (by omega), if_pos a0, if_pos (by omega), if_pos b0, if_pos (by omega), iResult ho (hw _ (rd_mem a0 (by omega))) (hw _ (rd_mem b0 (by omega))), Option.bind_some, if_pos d0, if_pos (by omega), w1 (by omega)]
      rfl
  have := key l.length 0 (by omega)
  simpa [runOf] using this
theorem celB_of {b : Int} {c : List Int} (hb : Bits b) (hw : Words b c) (h32 : c.length = 32) : celB b c = true := by
  unfold celB
  rw [Bool.and_eq_true, Bool.and_eq_true, List.all_eq_true]
  refine ⟨decide_eq_true hb, decide_eq_true h32, fun j hj => decide_eq_true (hw _ (rd_mem (by omega) (by have := List.mem_range.mp hj; omega)))⟩
theorem iRunCode {b : Int} {l : List S58} {c : List Int} (hv : cOk l = true) (hb : Bits b) (hw : Words b c) (h32 : c.length = 32) : Ev (fun k => impl_RunCode.f k b l c) (runOf b l c l.length, true) := by
  have hl := cOk_len hv
  unfold impl_RunCode.f
  simp only [iValid]
  refine ev_some (ev_if hv ?_)
  unfold impl_areCells.f
  refine ev_some (ev_if (celB_of hb hw h32) (Ev.bind ?_ (Ev.now _)))
  unfold impl_run.f slices_Clone_int64_int64.f
  rw [if_pos (by omega)]
  exact ev_some (iRun hv hw h32 (by omega))
theorem rdc_same {t : List Int} {i : Nat} {v : Int} (h : i < t.length) : rd (t.set i v) (i : Int) = v := by
  rw [rd_nat, List.getD_eq_getElem?_getD, List.getElem?_set_self h]; rfl
theorem rdc_other {t : List Int} {i j : Nat} {v : Int} (h : j ≠ i) : rd (t.set i v) (j : Int) = rd t (j : Int) := by
  rw [rd_nat, rd_nat, List.getD_eq_getElem?_getD, List.getD_eq_getElem?_getD, List.getElem?_set_ne (by omega)]
/-- One statement. -/
def stepC (b : Int) (s : S58) (c : List Int) : List Int := c.set s.f1.toNat (res s.f0 b (rd c s.f2) (rd c s.f3))
def runL (b : Int) : List S58 → List Int → List Int
  | [], c => c
  | s :: t, c => runL b t (stepC b s c)
theorem runL_app (b : Int) (t u : List S58) (c : List Int) : runL b (t ++ u) c = runL b u (runL b t c) := by
  induction t generalizing c with
  | nil => rfl
  | cons s t ih => exact ih _
theorem dropS {l : List S58} {i : Nat} (h : i < l.length) : l.drop i = rd_T58 l (i : Int) :: l.drop (i + 1) := by
  rw [List.drop_eq_getElem_cons h, rd58, List.getD_eq_getElem?_getD, List.getElem?_eq_getElem h]; rfl
theorem takeS {l : List S58} {i : Nat} (h : i < l.length) : l.take (i + 1) = l.take i ++ [rd_T58 l (i : Int)] := by
  rw [List.take_add_one, rd58, List.getD_eq_getElem?_getD, List.getElem?_eq_getElem h]; rfl
theorem runOf_L (b : Int) (l : List S58) (c : List Int) : ∀ i, i ≤ l.length → runOf b l c i = runL b (l.take i) c := by
  intro i
  induction i with
  | zero => intro _; simp [runOf, runL]
  | succ i ih =>
    intro hi
    rw [takeS (by omega), runL_app, ← ih (by omega)]
    rfl
theorem runOf_all (b : Int) (l : List S58) (c : List Int) : runOf b l c l.length = runL b l c := by
  rw [runOf_L b l c l.length (Nat.le_refl _), List.take_length]
/-- Two lists are alike at the marked cells. -/
def Alike (m : Nat → Bool) (A B : List Int) : Prop := ∀ x : Nat, x < 32 → m x = true → rd A (x : Int) = rd B (x : Int)
theorem rd_at {A : List Int} {n : Int} (h : 0 ≤ n) : rd A n = rd A ((n.toNat : Nat) : Int) := by rw [Int.toNat_of_nonneg h]
theorem alike_rd {m : Nat → Bool} {A B : List Int} (h : Alike m A B) {n : Int} (h0 : 0 ≤ n) (h1 : n ≤ 31) (hm : m n.toNat = true) : rd A n = rd B n := by
  rw [rd_at h0, rd_at (A := B) h0]
  exact h _ (by omega) hm
/-- What no statement writes stays. -/
theorem run_stays {b : Int} {l : List S58} {c : List Int} (hv : cOk l = true) (h32 : c.length = 32) : ∀ i, i ≤ l.length → ∀ x : Nat, x < 32 → wrm l i x = false → rd (runOf b l c i) (x : Int) = rd c (x : Int) := by
  intro i
  induction i with
  | zero => intro _ x _ _; rfl
  | succ i ih =>
    intro hi x hx hm
    obtain ⟨_, ⟨d0, d1⟩, _, _⟩ := cOk_at hv (by omega : i < l.length)
    unfold wrm put at hm
    by_cases he : (x : Int) = (rd_T58 l (i : Int)).f1
    · rw [if_pos he] at hm; cases hm
    · rw [if_neg he] at hm
      unfold runOf
      rw [rdc_other (by omega)]
      exact ih (by omega) x hx hm
theorem rd1_ge {R W : Nat → Bool} {a : Int} {x : Nat} (h : R x = true) : put R a (R a.toNat || !W a.toNat) x = true := by
  unfold put
  by_cases he : (x : Int) = a
  · rw [if_pos he, ← he, Int.toNat_natCast, h]; rfl
  · rw [if_neg he]; exact h
theorem rd1_at {R W : Nat → Bool} {a : Int} (h0 : 0 ≤ a) (h : W a.toNat = false) : put R a (R a.toNat || !W a.toNat) a.toNat = true := by
  unfold put
  rw [if_pos (by omega), h]; simp
theorem rdm_step (l : List S58) (i x : Nat) (h : rdm l i x = true) : rdm l (i + 1) x = true := by
  unfold rdm rd2
  exact rd1_ge (rd1_ge h)
theorem rdm_mono (l : List S58) (x i : Nat) (h : rdm l i x = true) : ∀ d, rdm l (i + d) x = true := by
  intro d
  induction d with
  | zero => exact h
  | succ d ih => exact rdm_step l (i + d) x ih
theorem rdm_reads {l : List S58} (hv : cOk l = true) {i : Nat} (hi : i < l.length) : (wrm l i (rd_T58 l (i : Int)).f2.toNat = true ∨ rdm l (i + 1) (rd_T58 l (i : Int)).f2.toNat = true) ∧ (wrm l i (rd_T58 l (i : Int)).f3.toNat = true ∨ rdm l (i + 1) (rd_T58 l (i : Int)).f3.toNat = true) := by
  obtain ⟨_, _, ⟨a0, _⟩, b0, _⟩ := cOk_at hv hi
  refine ⟨?_, ?_⟩
  · cases hw : wrm l i (rd_T58 l (i : Int)).f2.toNat with
    | true => exact .inl rfl
    | false =>
      right
      unfold rdm rd2
      exact rd1_ge (rd1_at a0 hw)
  · cases hw : wrm l i (rd_T58 l (i : Int)).f3.toNat with
    | true => exact .inl rfl
    | false =>
      right
      unfold rdm rd2
      exact rd1_at b0 hw
/-- Cells that are no inputs do not matter. -/
theorem run_inputs {b : Int} {l : List S58} {c o : List Int} (hv : cOk l = true) (hc : c.length = 32) (ho : o.length = 32) (h : Alike (rdm l l.length) c o) : ∀ i, i ≤ l.length → ∀ x : Nat, x < 32 → (wrm l i x = true ∨ rdm l l.length x = true) → rd (runOf b l c i) (x : Int) = rd (runOf b l o i) (x : Int) := by
  intro i
  induction i with
  | zero =>
    intro _ x hx hm
    rcases hm with hm | hm
    · cases hm
    · exact h x hx hm
  | succ i ih =>
    intro hi x hx hm
    obtain ⟨_, ⟨d0, d1⟩, ⟨a0, a1⟩, b0, b1⟩ := cOk_at hv (by omega : i < l.length)
    have hr := rdm_reads hv (by omega : i < l.length)
    have up : ∀ z, rdm l (i + 1) z = true → rdm l l.length z = true := fun z hz => by
      have := rdm_mono l z (i + 1) hz (l.length - (i + 1))
      rwa [show i + 1 + (l.length - (i + 1)) = l.length by omega] at this
    have hA : rd (runOf b l c i) (rd_T58 l (i : Int)).f2 = rd (runOf b l o i) (rd_T58 l (i : Int)).f2 := by
      rw [rd_at a0, rd_at (A := runOf b l o i) a0]
      exact ih (by omega) _ (by omega) (hr.1.imp id (up _))
    have hB : rd (runOf b l c i) (rd_T58 l (i : Int)).f3 = rd (runOf b l o i) (rd_T58 l (i : Int)).f3 := by
      rw [rd_at b0, rd_at (A := runOf b l o i) b0]
      exact ih (by omega) _ (by omega) (hr.2.imp id (up _))
    have n1 := runOf_len b l c i
    have n2 := runOf_len b l o i
    unfold runOf
    by_cases he : x = (rd_T58 l (i : Int)).f1.toNat
    · rw [← he, rdc_same (by omega), rdc_same (by omega), hA, hB]
    · rw [rdc_other he, rdc_other he]
      refine ih (by omega) x hx (hm.imp (fun hw => ?_) id)
      unfold wrm put at hw
      rwa [if_neg (by omega)] at hw
theorem wm1 {i : Nat} (h : 0 < i) (h2 : i < 2000000) : wrap64 ((i : Int) - 1) = ((i - 1 : Nat) : Int) := by unfold wrap64; omega
/-- Each number from the place i on is greater than the one ahead of it. -/
theorem iSet (l : List Int) (hl : l.length ≤ 1048576) : Ev (fun k => impl_isSet.f k l) (decide (∀ j, j < l.length → 1 ≤ j → rd l ((j - 1 : Nat) : Int) < rd l (j : Int))) := by
  unfold impl_isSet.f
  have key : ∀ d i : Nat, 1 ≤ i → i ≤ 1048577 → l.length ≤ i + d → Ev (fun k => impl_isSet.l0 k l (i : Int)) (decide (∀ j, j < l.length → i ≤ j → rd l ((j - 1 : Nat) : Int) < rd l (j : Int))) := by
    intro d
    induction d with
    | zero =>
      intro i h1 hi2 hi
      rw [decide_eq_true (fun j hj hij => absurd hj (by omega))]
      refine ⟨1, fun k hk => ?_⟩
      obtain ⟨k, rfl⟩ : ∃ m, k = m + 1 := ⟨k - 1, by omega⟩
      simp only [impl_isSet.l0]
      rw [if_neg (by omega)]
    | succ d ih =>
      intro i h1 hi2 hi
      by_cases hlt : i < l.length
      · by_cases hr : rd l (i : Int) ≤ rd l ((i - 1 : Nat) : Int)
        · rw [decide_eq_false (fun h => by have := h i hlt (Nat.le_refl _); omega)]
          refine ⟨1, fun k hk => ?_⟩
          obtain ⟨k, rfl⟩ : ∃ m, k = m + 1 := ⟨k - 1, by omega⟩
          simp only [impl_isSet.l0]
          rw [if_pos (by omega), if_pos (by omega), wm1 (by omega) (by omega), if_pos (by omega), if_pos (by omega), if_pos hr]
        · have e : decide (∀ j, j < l.length → i ≤ j → rd l ((j - 1 : Nat) : Int) < rd l (j : Int)) = decide (∀ j, j < l.length → i + 1 ≤ j → rd l ((j - 1 : Nat) : Int) < rd l (j : Int)) := by
            refine decide_eq_decide.mpr ⟨fun h j hj hij => h j hj (by omega), fun h j hj hij => ?_⟩
            by_cases hji : j = i
            · subst hji; omega
            · exact h j hj (by omega)
          rw [e]
          refine Ev.step (fun k => ?_) (ih (i + 1) (by omega) (by omega) (by omega))
          simp only [impl_isSet.l0]
          rw [if_pos (by omega), if_pos (by omega), wm1 (by omega) (by omega), if_pos (by omega), if_pos (by omega), if_neg hr, w1 (by omega)]
      · rw [decide_eq_true (fun j hj hij => absurd hj (by omega))]
        refine ⟨1, fun k hk => ?_⟩
        obtain ⟨k, rfl⟩ : ∃ m, k = m + 1 := ⟨k - 1, by omega⟩
        simp only [impl_isSet.l0]
        rw [if_neg (by omega)]
  have := key l.length 1 (by omega) (by omega) (by omega)
  exact this
theorem celAll_iff (l : List Int) : celAll l = true ↔ ∀ j, j < l.length → 0 ≤ rd l (j : Int) ∧ rd l (j : Int) ≤ 31 := by
  unfold celAll
  rw [List.all_eq_true]
  exact ⟨fun h j hj => cellB_is.mp (h j (List.mem_range.mpr hj)), fun h j hj => cellB_is.mpr (h j (List.mem_range.mp hj))⟩
theorem ndd_gt (l : List S58) (m : Nat → Bool) : ∀ x, ∀ n ∈ (ndd l m x).2, (l.length : Int) - 1 - (x : Int) < n := by
  intro x
  induction x with
  | zero => intro n hn; cases hn
  | succ x ih =>
    intro n hn
    unfold ndd at hn
    split at hn
    · rcases List.mem_append.mp hn with h | h
      · have := ih n h; omega
      · rw [List.mem_singleton.mp h]; omega
    · have := ih n hn; omega
theorem iReverse (l : List Int) (hl : l.length ≤ 1048576) : Ev (fun k => slices_Reverse_int64_int64.f k l) l.reverse := by
  unfold slices_Reverse_int64_int64.f
  have key : ∀ d i : Nat, l.length ≤ 2 * i + d → i ≤ l.length → ∀ t : List Int, t.length = l.length → (∀ p, p < l.length → t[p]? = if p < i ∨ l.length - i ≤ p then l[l.length - 1 - p]? else l[p]?) → Ev (fun k => slices_Reverse_int64_int64.l0 k t (i : Int) ((l.length : Int) - 1 - (i : Int))) l.reverse := by
    intro d
    induction d using Nat.strongRecOn with
    | ind d ih =>
      intro i hd hi2 t ht hp
      by_cases hlt : (i : Int) < (l.length : Int) - 1 - (i : Int)
      · obtain ⟨j, hj⟩ : ∃ j : Nat, (l.length : Int) - 1 - (i : Int) = (j : Int) := ⟨l.length - 1 - i, by omega⟩
        have e2 : wrap64 ((j : Int) - 1) = (l.length : Int) - 1 - ((i + 1 : Nat) : Int) := by unfold wrap64; omega
        refine Ev.step (fun k => ?_) (ih (d - 2) (by omega) (i + 1) (by omega) (by omega) ((t.set i (rd t (j : Int))).set j (rd t (i : Int))) (by simp; exact ht) ?_)
        · rw [hj]
          simp only [slices_Reverse_int64_int64.l0]
          rw [if_pos (by omega), if_pos (by omega), if_pos (by omega), if_pos (by omega), if_pos (by omega), Int.toNat_natCast, Int.toNat_natCast, w1 (by omega), e2]
        · intro p hpl
          have hpi := hp i (by omega)
          have hpj := hp j (by omega)
          rw [if_neg (by omega)] at hpi hpj
          have hri : some (rd t (i : Int)) = l[i]? := by
            rw [← hpi, rd_nat, List.getD_eq_getElem?_getD, List.getElem?_eq_getElem (by omega)]; rfl
          have hrj : some (rd t (j : Int)) = l[j]? := by
            rw [← hpj, rd_nat, List.getD_eq_getElem?_getD, List.getElem?_eq_getElem (by omega)]; rfl
          rw [List.getElem?_set]
          by_cases h1 : j = p
          · subst h1
            rw [if_pos rfl, if_pos (by simp; omega), if_pos (by omega), hri, show l.length - 1 - j = i by omega]
          · rw [if_neg h1, List.getElem?_set]
            by_cases h2 : i = p
            · subst h2
              rw [if_pos rfl, if_pos (by omega), if_pos (by omega), hrj, show l.length - 1 - i = j by omega]
            · rw [if_neg h2, hp p hpl]
              by_cases h3 : p < i ∨ l.length - i ≤ p
              · rw [if_pos h3, if_pos (by omega)]
              · rw [if_neg h3, if_neg (by omega)]
      · have e : t = l.reverse := by
          apply List.ext_getElem?
          intro p
          by_cases hpl : p < l.length
          · rw [hp p hpl, List.getElem?_reverse hpl]
            by_cases h3 : p < i ∨ l.length - i ≤ p
            · rw [if_pos h3]
            · rw [if_neg h3, show l.length - 1 - p = p by omega]
          · rw [List.getElem?_eq_none (by omega), List.getElem?_eq_none (by rw [List.length_reverse]; omega)]
        refine ⟨1, fun k hk => ?_⟩
        obtain ⟨k, rfl⟩ : ∃ m, k = m + 1 := ⟨k - 1, by omega⟩
        simp only [slices_Reverse_int64_int64.l0]
        rw [if_neg hlt, e]
  have e : wrap64 ((l.length : Int) - 1) = (l.length : Int) - 1 - ((0 : Nat) : Int) := by unfold wrap64; omega
  rw [e]
  exact key l.length 0 (by omega) (by omega) l rfl (fun p hp => by rw [if_neg (by omega)])
theorem ndd_le (l : List S58) (m : Nat → Bool) : ∀ x, x ≤ l.length → ∀ n ∈ (ndd l m x).2, 0 ≤ n ∧ n < (l.length : Int) := by
  intro x
  induction x with
  | zero => intro _ n hn; cases hn
  | succ x ih =>
    intro hx n hn
    unfold ndd at hn
    split at hn
    · rcases List.mem_append.mp hn with h | h
      · exact ih (by omega) n h
      · rw [List.mem_singleton.mp h]; omega
    · exact ih (by omega) n hn
theorem ndd_desc (l : List S58) (m : Nat → Bool) : ∀ x, (ndd l m x).2.Pairwise (fun a b => b < a) := by
  intro x
  induction x with
  | zero => exact List.Pairwise.nil
  | succ x ih =>
    unfold ndd
    split
    · rw [List.pairwise_append]
      refine ⟨ih, List.pairwise_singleton _ _, fun a ha b hb => ?_⟩
      rw [List.mem_singleton.mp hb]
      exact ndd_gt l m x a ha
    · exact ih
theorem iNeeded {l : List S58} {c : List Int} (hv : cOk l = true) (bc : c.length ≤ 1048576) (hS : ∀ j, j < c.length → 1 ≤ j → rd c ((j - 1 : Nat) : Int) < rd c (j : Int)) (hq : celAll c = true) : Ev (fun k => impl_NeededFor.f k l c) ((ndd l (lvm c c.length) l.length).2.reverse, true) := by
  have hl := cOk_len hv
  unfold impl_NeededFor.f
  refine ev_if hv (Ev.bind (iSet c bc) ?_)
  rw [decide_eq_true hS]
  exact ev_if rfl (ev_if hq (Ev.bind (iReverse _ (by have := ndd_len l (lvm c c.length) l.length; omega)) (Ev.now _)))
theorem lvm_mem {c : List Int} (hq : ∀ j, j < c.length → 0 ≤ rd c (j : Int) ∧ rd c (j : Int) ≤ 31) : ∀ n, n ≤ c.length → ∀ j, j < n → lvm c n (rd c (j : Int)).toNat = true := by
  intro n
  induction n with
  | zero => intro _ j hj; omega
  | succ n ih =>
    intro hn j hj
    have := hq j (by omega)
    unfold lvm put
    by_cases he : (((rd c (j : Int)).toNat : Nat) : Int) = rd c (n : Int)
    · rw [if_pos he]
    · rw [if_neg he]
      by_cases hjn : j = n
      · subst hjn; exact absurd (by omega) he
      · exact ih (by omega) j (by omega)
/-- The needed statements alone give the wanted cells what all of them give. -/
theorem needed_run {b : Int} {l : List S58} {m : Nat → Bool} (hv : cOk l = true) : ∀ y, y ≤ l.length → ∀ A B : List Int, A.length = 32 → B.length = 32 → Alike (ndd l m y).1 A B → Alike m (runL b (l.drop (l.length - y)) A) (runL b ((ndd l m y).2.reverse.map fun n => rd_T58 l n) B) := by
  intro y
  induction y with
  | zero =>
    intro _ A B _ _ h
    rw [Nat.sub_zero, List.drop_length]
    exact h
  | succ y ih =>
    intro hy A B hA hB h
    obtain ⟨i, hi⟩ : ∃ i : Nat, (l.length : Int) - 1 - (y : Int) = (i : Int) := ⟨l.length - 1 - y, by omega⟩
    obtain ⟨_, ⟨d0, d1⟩, ⟨a0, a1⟩, b0, b1⟩ := cOk_at hv (by omega : i < l.length)
    have e1 : l.length - (y + 1) = i := by omega
    have e2 : l.length - y = i + 1 := by omega
    have hx := ih (by omega)
    rw [e2] at hx
    rw [e1, dropS (by omega)]
    cases hm : (ndd l m y).1 (rd_T58 l (i : Int)).f1.toNat with
    | true =>
      rw [ndd_t hi hm] at h ⊢
      rw [List.reverse_append]
      show Alike m (runL b (l.drop (i + 1)) (stepC b (rd_T58 l (i : Int)) A)) (runL b ((ndd l m y).2.reverse.map fun n => rd_T58 l n) (stepC b (rd_T58 l (i : Int)) B))
      refine hx _ _ (by simp [stepC, hA]) (by simp [stepC, hB]) (fun x hx32 hmx => ?_)
      have hra : rd A (rd_T58 l (i : Int)).f2 = rd B (rd_T58 l (i : Int)).f2 := alike_rd h a0 a1 (by
        show put (put (put (ndd l m y).1 _ false) _ true) _ true _ = true
        unfold put
        split
        · rfl
        · rw [if_pos (by omega)])
      have hrb : rd A (rd_T58 l (i : Int)).f3 = rd B (rd_T58 l (i : Int)).f3 := alike_rd h b0 b1 (by
        show put (put (put (ndd l m y).1 _ false) _ true) _ true _ = true
        unfold put
        rw [if_pos (by omega)])
      unfold stepC
      by_cases he : x = (rd_T58 l (i : Int)).f1.toNat
      · rw [he, rdc_same (by omega), rdc_same (by omega), hra, hrb]
      · rw [rdc_other he, rdc_other he]
        refine h x hx32 ?_
        show put (put (put (ndd l m y).1 _ false) _ true) _ true x = true
        unfold put
        split
        · rfl
        · split
          · rfl
          · rw [if_neg (by omega)]; exact hmx
    | false =>
      rw [ndd_f hi hm] at h ⊢
      show Alike m (runL b (l.drop (i + 1)) (stepC b (rd_T58 l (i : Int)) A)) _
      refine hx _ _ (by simp [stepC, hA]) hB (fun x hx32 hmx => ?_)
      unfold stepC
      rw [rdc_other (fun he => by rw [he, hm] at hmx; cases hmx)]
      exact h x hx32 hmx
def Bytes (l : List Int) : Prop := ∀ x ∈ l, 0 ≤ x ∧ x ≤ 255
theorem bytes_of {l : List Int} (h : ∀ x ∈ l, (Lit.int .u8 x).wf = true) : Bytes l := fun x hx => bounds_u8 (h x hx)
theorem and255 (n : Int) : 0 ≤ Go.bits .and .u64 n 255 ∧ Go.bits .and .u64 n 255 ≤ 255 := by
  have key := mask 8 (by decide) n
  have e : Go.bits .and .u64 n 255 = IntKind.u64.wrap (((BitVec.ofInt 64 n &&& BitVec.ofInt 64 (2 ^ 8 - 1)).toNat : Nat) : Int) := rfl
  rw [e, key, u_small (by omega)]
  omega
theorem next_ok {s : List Int} (hs : Bytes s) (p st : Int) (hp : 0 ≤ p ∧ p ≤ 1000000000) : ∃ v st' : Int, spec_l00Src_next.f s p st = some (v, p + 1, st') ∧ 0 ≤ v ∧ v ≤ 255 := by
  have hw : wrap64 (p + 1) = p + 1 := w_small (by omega)
  unfold spec_l00Src_next.f
  by_cases h1 : p < (s.length : Int)
  · have hv := hs _ (rd_mem hp.1 h1)
    rw [if_pos h1, if_pos hp.1, hw]
    by_cases h2 : p + 1 ≤ (s.length : Int)
    · rw [if_pos h2]
      exact ⟨_, _, rfl, by rw [w_small (by omega)]; exact hv⟩
    · exact absurd h1 (by omega)
  · rw [if_neg h1, hw]
    by_cases h2 : p + 1 ≤ (s.length : Int)
    · exact absurd h2 (by omega)
    · rw [if_neg h2]
      refine ⟨_, _, rfl, ?_⟩
      have := and255 ((IntKind.u64.wrap ((IntKind.u64.wrap ((IntKind.u64.wrap (st * 6364136223846793005)) + 0)) + 1442695040888963407)) / 1099511627776)
      rw [w_small (by omega)]
      exact this
theorem pick_ok {s : List Int} (hs : Bytes s) (p st n : Int) (hp : 0 ≤ p ∧ p ≤ 1000000) (hn : 1 ≤ n) : ∃ v p' st' : Int, spec_l00Src_pick.f s p st n = some (v, p', st') ∧ (0 ≤ v ∧ v < n) ∧ p ≤ p' ∧ p' ≤ p + 2 := by
  unfold spec_l00Src_pick.f
  by_cases h1 : n ≤ 1
  · rw [if_pos h1]
    exact ⟨_, _, _, rfl, by omega, by omega⟩
  · rw [if_neg h1]
    obtain ⟨v, st1, e1, hv⟩ := next_ok hs p st (by omega)
    rw [e1]
    show ∃ v' p' st', (if n > 200 then ((spec_l00Src_next.f s (p + 1) st1).bind fun bt136 => (if n = 0 then (none) else (some (Int.tmod (wrap64 ((wrap64 (v * 256)) + bt136.1)) n, bt136.2.1, bt136.2.2)))) else (if n = 0 then (none) else (some (Int.tmod v n, p + 1, st1)))) = some (v', p', st') ∧ _
    by_cases h2 : n > 200
    · rw [if_pos h2]
      obtain ⟨v2, st2, e2, hv2⟩ := next_ok hs (p + 1) st1 (by omega)
      rw [e2]
      have hx : wrap64 ((wrap64 (v * 256)) + v2) = v * 256 + v2 := by rw [w_small (n := v * 256) (by omega), w_small (by omega)]
      refine ⟨Int.tmod (wrap64 ((wrap64 (v * 256)) + v2)) n, p + 1 + 1, st2, ?_, ?_, by omega⟩
      · show (if n = 0 then none else _) = _
        rw [if_neg (by omega)]
      · rw [hx]
        exact ⟨Int.tmod_nonneg _ (by omega), Int.tmod_lt_of_pos _ (by omega)⟩
    · rw [if_neg h2, if_neg (by omega)]
      exact ⟨_, _, _, rfl, ⟨Int.tmod_nonneg _ (by omega), Int.tmod_lt_of_pos _ (by omega)⟩, by omega⟩
theorem among_ok {s : List Int} (hs : Bytes s) (p st : Int) (l : List Int) (hp : 0 ≤ p ∧ p ≤ 1000000) (hn : 1 ≤ l.length) : ∃ v p' st' : Int, spec_l00Src_among.f s p st l = some (v, p', st') ∧ v ∈ l ∧ p ≤ p' ∧ p' ≤ p + 2 := by
  obtain ⟨v, p', st', e, hv, hp'⟩ := pick_ok hs p st l.length hp (by omega)
  unfold spec_l00Src_among.f
  rw [e]
  refine ⟨rd l v, p', st', ?_, rd_mem hv.1 hv.2, hp'⟩
  show (if 0 ≤ v then (if v < (l.length : Int) then _ else none) else none) = _
  rw [if_pos hv.1, if_pos hv.2]
theorem one_ok {s : List Int} (hs : Bytes s) (p st n : Int) (hp : 0 ≤ p ∧ p ≤ 1000000) (hn : 1 ≤ n) : ∃ (b : Bool) (p' st' : Int), spec_l00Src_one.f s p st n = some (b, p', st') ∧ p ≤ p' ∧ p' ≤ p + 2 := by
  obtain ⟨v, p', st', e, hv, hp'⟩ := pick_ok hs p st n hp hn
  unfold spec_l00Src_one.f
  rw [e]
  exact ⟨_, _, _, rfl, hp'⟩
theorem drawBits {s : List Int} (hs : Bytes s) : ∃ b : Int, spec_B10Bits.f s = some b ∧ Bits b := by
  obtain ⟨v, p', st', e, hv, _⟩ := among_ok hs 0 0 [8, 4, 16] (by omega) (by decide)
  unfold spec_B10Bits.f spec_l00From.f
  refine ⟨v, ?_, ?_⟩
  · show ((spec_l00Src_among.f s 0 0 [8, 4, 16]).bind fun bt150 => some bt150.1) = _
    rw [e]; rfl
  · simp only [List.mem_cons, List.not_mem_nil, or_false] at hv
    unfold Bits
    omega
theorem uB {b : Int} (h : Bits b) : IntKind.u64.wrap b = b ∧ IntKind.u64.wrap (b - 1) = b - 1 := by
  have := b_bounds h
  exact ⟨u_small (by omega), u_small (by omega)⟩
theorem sized_ok {s : List Int} (hs : Bytes s) (few : Int) (hf : 1 ≤ few) : ∀ (n : Nat) (acc : List S58) (p st : Int), acc.length + n ≤ 1000 → 0 ≤ p ∧ p + 8 * (n : Int) ≤ 800000 → ∃ (l : List S58) (p' st' : Int), Ev (fun k => spec_l03DrawSized.l0 k (n : Int) few acc s p st) (acc ++ l, p', st') ∧ l.length = n ∧ ∀ x ∈ l, OpOk x.f0 ∧ (0 ≤ x.f1 ∧ x.f1 < few) ∧ (0 ≤ x.f2 ∧ x.f2 < few) ∧ (0 ≤ x.f3 ∧ x.f3 < few) := by
  intro n
  induction n with
  | zero =>
    intro acc p st _ _
    refine ⟨[], p, st, ⟨1, fun k hk => ?_⟩, rfl, fun x hx => absurd hx (by simp)⟩
    obtain ⟨k, rfl⟩ : ∃ m, k = m + 1 := ⟨k - 1, by omega⟩
    simp only [spec_l03DrawSized.l0]
    rw [if_neg (by omega), List.append_nil]
  | succ n ih =>
    intro acc p st ha hp
    obtain ⟨v0, p0, s0, e0, h0, q0⟩ := pick_ok hs p st 18 (by omega) (by omega)
    obtain ⟨v1, p1, s1, e1, h1, q1⟩ := pick_ok hs p0 s0 few (by omega) hf
    obtain ⟨v2, p2, s2, e2, h2, q2⟩ := pick_ok hs p1 s1 few (by omega) hf
    obtain ⟨v3, p3, s3, e3, h3, q3⟩ := pick_ok hs p2 s2 few (by omega) hf
    obtain ⟨l, p', st', hE, hl, hx⟩ := ih (acc ++ [⟨v0, v1, v2, v3⟩]) p3 s3 (by simp; omega) (by omega)
    refine ⟨⟨v0, v1, v2, v3⟩ :: l, p', st', Ev.step (fun k => ?_) (by simpa using hE), by simp [hl], fun x hm => ?_⟩
    · simp only [spec_l03DrawSized.l0]
      have hw : wrap64 (((n + 1 : Nat) : Int) - 1) = (n : Int) := by rw [w_small (by omega)]; omega
      rw [if_pos (by omega), e0, Option.bind_some, e1, Option.bind_some, e2, Option.bind_some, e3, Option.bind_some, if_pos (by omega), hw]
    · rcases List.mem_cons.mp hm with h | h
      · rw [h]
        exact ⟨⟨h0.1, by show v0 ≤ 17; omega⟩, h1, h2, h3⟩
      · exact hx x h
theorem cOk_of {l : List S58} (hl : l.length ≤ 16) (h : ∀ x ∈ l, OpOk x.f0 ∧ (0 ≤ x.f1 ∧ x.f1 ≤ 31) ∧ (0 ≤ x.f2 ∧ x.f2 ≤ 31) ∧ (0 ≤ x.f3 ∧ x.f3 ≤ 31)) : cOk l = true := by
  unfold cOk
  rw [Bool.and_eq_true, List.all_eq_true]
  refine ⟨decide_eq_true hl, fun j hj => ?_⟩
  have hj := List.mem_range.mp hj
  have hm : rd_T58 l (j : Int) ∈ l := by
    rw [rd58, List.getD_eq_getElem?_getD, List.getElem?_eq_getElem hj]
    exact List.getElem_mem hj
  obtain ⟨h0, h1, h2, h3⟩ := h _ hm
  unfold stOk
  rw [decide_eq_true h0, cellB_is.mpr h1, cellB_is.mpr h2, cellB_is.mpr h3]
  rfl
theorem drawCode {s : List Int} (hs : Bytes s) : ∃ l : List S58, Ev (fun k => spec_B10Code.f k s) l ∧ cOk l = true := by
  obtain ⟨n, p0, s0, e0, h0, q0⟩ := pick_ok hs 0 0 8 (by omega) (by omega)
  obtain ⟨b, p1, s1, e1, q1⟩ := one_ok hs p0 s0 16 (by omega) (by omega)
  obtain ⟨f, p2, s2, e2, h2, q2⟩ := pick_ok hs p1 s1 12 (by omega) (by omega)
  have hw : wrap64 (3 + f) = 3 + f := w_small (by omega)
  have fin : ∀ c : Nat, c ≤ 16 → ∃ (l : List S58) (p' st' : Int), Ev (fun k => spec_l03DrawSized.f k s p2 s2 (c : Int) (wrap64 (3 + f))) (l, p', st') ∧ cOk l = true := by
    intro c hc
    rw [hw]
    obtain ⟨l, p', st', hE, hl, hx⟩ := sized_ok hs (3 + f) (by omega) c [] p2 s2 (by simp; omega) (by omega)
    refine ⟨l, p', st', hE, cOk_of (by omega) (fun x hm => ?_)⟩
    obtain ⟨a0, a1, a2, a3⟩ := hx x hm
    exact ⟨a0, by omega, by omega, by omega⟩
  have hD : ∃ (l : List S58) (p' st' : Int), Ev (fun k => spec_l03DrawOk.f k s 0 0) (l, p', st') ∧ cOk l = true := by
    unfold spec_l03DrawOk.f
    cases b with
    | true =>
      obtain ⟨l, p', st', hE, hc⟩ := fin 16 (by omega)
      exact ⟨l, p', st', ev_eq e0 (ev_eq e1 (ev_if rfl (ev_eq e2 (Ev.bind hE (Ev.now _))))), hc⟩
    | false =>
      obtain ⟨l, p', st', hE, hc⟩ := fin n.toNat (by omega)
      rw [show ((n.toNat : Nat) : Int) = n by omega] at hE
      exact ⟨l, p', st', ev_eq e0 (ev_eq e1 (ev_else (show ¬ (false = true) by decide) (ev_eq e2 (Ev.bind hE (Ev.now _))))), hc⟩
  obtain ⟨l, p', st', hE, hc⟩ := hD
  refine ⟨l, ?_, hc⟩
  unfold spec_B10Code.f spec_l00From.f
  exact ev_some (Ev.bind hE (Ev.now _))
theorem cells_ok {s : List Int} (hs : Bytes s) (b : Int) (hb : Bits b) : ∀ (n c : Nat) (acc : List Int) (p st : Int), c + n = 32 → acc.length = c → Words b acc → 0 ≤ p ∧ p + 8 * (n : Int) ≤ 800000 → ∃ l : List Int, Ev (fun k => spec_B10Cells.l0 k b acc (c : Int) s p st) l ∧ l.length = 32 ∧ Words b l := by
  intro n
  induction n with
  | zero =>
    intro c acc p st hc ha hw _
    refine ⟨acc, ⟨1, fun k hk => ?_⟩, by omega, hw⟩
    obtain ⟨k, rfl⟩ : ∃ m, k = m + 1 := ⟨k - 1, by omega⟩
    simp only [spec_B10Cells.l0]
    rw [if_neg (by omega)]
  | succ n ih =>
    intro c acc p st hc ha hw hp
    have hM : 16 ≤ M b ∧ M b ≤ 65536 := by rcases hb with rfl | rfl | rfl <;> decide
    have hbb := b_bounds hb
    obtain ⟨v, p1, s1, e1, h1, q1⟩ := pick_ok hs p st (M b) (by omega) (by omega)
    obtain ⟨l, hE, hl, hx⟩ := ih (c + 1) (acc ++ [v]) p1 s1 (by omega) (by simp; omega) (fun x hm => by
      rcases List.mem_append.mp hm with h | h
      · exact hw x h
      · rw [List.mem_singleton.mp h]; exact ⟨hb, h1⟩) (by omega)
    refine ⟨l, Ev.step (fun k => ?_) hE, hl, hx⟩
    simp only [spec_B10Cells.l0]
    rw [if_pos (by omega), (uB hb).1, if_pos (by omega), shlB hb, e1, Option.bind_some, if_pos (by omega), w1 (by omega)]
theorem drawCells {s : List Int} (hs : Bytes s) {b : Int} (hb : Bits b) : ∃ l : List Int, Ev (fun k => spec_B10Cells.f k s b) l ∧ l.length = 32 ∧ Words b l := by
  unfold spec_B10Cells.f spec_l00From.f
  obtain ⟨l, hE, hl, hw⟩ := cells_ok hs b hb 32 0 [] 0 0 (by omega) rfl (fun x hx => absurd hx (by simp)) (by omega)
  exact ⟨l, ev_some hE, hl, hw⟩
theorem b10At {s : List Int} (hs : Bytes s) (i n : Int) (hi : 0 ≤ i ∧ i ≤ 1000) (hn : 1 ≤ n) : ∃ v : Int, laws_b10At.f s i n = some v ∧ 0 ≤ v ∧ v < n := by
  unfold laws_b10At.f
  by_cases h1 : n ≤ 1
  · rw [if_pos h1]; exact ⟨0, rfl, by omega, by omega⟩
  · rw [if_neg h1]
    by_cases h2 : i < (s.length : Int)
    · rw [if_pos h2, if_pos hi.1, if_neg (by omega)]
      have hv := hs _ (rd_mem hi.1 h2)
      rw [w_small (by omega)]
      exact ⟨_, rfl, Int.tmod_nonneg _ (by omega), Int.tmod_lt_of_pos _ (by omega)⟩
    · rw [if_neg h2, if_neg (by omega), w_small (n := i * 37) (by omega), w_small (by omega)]
      exact ⟨_, rfl, Int.tmod_nonneg _ (by omega), Int.tmod_lt_of_pos _ (by omega)⟩

end Go.Proofs.Yteknfebehafbdaa.V
