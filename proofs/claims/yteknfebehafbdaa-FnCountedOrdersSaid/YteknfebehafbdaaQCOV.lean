/- Plain theorems of this claim. Their conditions stand with each. -/
import Derived.OpenShut
import Derived.Test.YteknfebehafbdaaB0
import Derived.Test.YteknfebehafbdaaH5
import Derived.Test.YteknfebehafbdaaK0
import Derived.Test.YteknfebehafbdaaQCO0
import Derived.Test.YteknfebehafbdaaQCO1
import Derived.Test.YteknfebehafbdaaQCO2
namespace Go.Proofs.Yteknfebehafbdaa.V
open Go.RowKit Go.Proofs.Yteknfebehafbdaa.K Go.Proofs.Yteknfebehafbdaa.Bx Go.Proofs.YteknfebehafbdaaW.PrintWords Go.Proofs.YteknfebehafbdaaW.PrintLast
set_option linter.unusedVariables false
set_option linter.unusedSimpArgs false

theorem ev_if {α : Type} {c : Prop} [Decidable c] {g f : Nat → Option α} {r : α} (h : c) (k : Ev g r) : Ev (fun n => if c then g n else f n) r := Ev.congr (fun n => if_pos h) k
theorem ev_else {α : Type} {c : Prop} [Decidable c] {g f : Nat → Option α} {r : α} (h : ¬ c) (k : Ev f r) : Ev (fun n => if c then g n else f n) r := Ev.congr (fun n => if_neg h) k
theorem ev_some {α β : Type} {a : α} {f : Nat → α → Option β} {r : β} (k : Ev (fun n => f n a) r) : Ev (fun n => (some a).bind (f n)) r := k
theorem ev_eq {α β : Type} {g : Option α} {a : α} {f : Nat → α → Option β} {r : β} (h : g = some a) (k : Ev (fun n => f n a) r) : Ev (fun n => g.bind (f n)) r := by rw [h]; exact k
theorem w1 {i : Nat} (h : i < 2000000) : wrap64 ((i : Int) + 1) = ((i + 1 : Nat) : Int) := by unfold wrap64; omega
theorem range_end {F : Nat → Int} (i : Nat) : (List.range i).map F ++ [F i] = (List.range (i + 1)).map F := by rw [List.range_succ, List.map_append]; rfl
theorem rd_nat (l : List Int) (i : Nat) : rd l (i : Int) = l.getD i 0 := by unfold rd; rw [Int.toNat_natCast]
theorem rd_map {F : Nat → Int} {n i : Nat} (h : i < n) : rd ((List.range n).map F) (i : Int) = F i := by
  rw [rd_nat, List.getD_eq_getElem?_getD, List.getElem?_map, List.getElem?_range h]; rfl
theorem rd58 (l : List S58) (i : Nat) : rd_T58 l (i : Int) = l.getD i z58 := by unfold rd_T58; rw [Int.toNat_natCast]
/-- The test of code, for both. -/
def cOk (l : List S58) : Bool := decide (l.length ≤ 16) && (List.range l.length).all fun (j : Nat) => stOk (rd_T58 l (j : Int))
theorem iValid (k : Nat) (l : List S58) : impl_ValidCode.f k l = some (cOk l) := rfl
theorem cOk_len {l : List S58} (h : cOk l = true) : l.length ≤ 16 := by
  unfold cOk at h
  rw [Bool.and_eq_true] at h
  exact of_decide_eq_true h.1
theorem cellB_is {n : Int} : cellB n = true ↔ 0 ≤ n ∧ n ≤ 31 := by unfold cellB; exact decide_eq_true_iff
theorem cOk_at {l : List S58} (h : cOk l = true) {j : Nat} (hj : j < l.length) : OpOk (rd_T58 l (j : Int)).f0 ∧ (0 ≤ (rd_T58 l (j : Int)).f1 ∧ (rd_T58 l (j : Int)).f1 ≤ 31) ∧ (0 ≤ (rd_T58 l (j : Int)).f2 ∧ (rd_T58 l (j : Int)).f2 ≤ 31) ∧ (0 ≤ (rd_T58 l (j : Int)).f3 ∧ (rd_T58 l (j : Int)).f3 ≤ 31) := by
  unfold cOk at h
  rw [Bool.and_eq_true, List.all_eq_true] at h
  have := h.2 j (List.mem_range.mpr hj)
  unfold stOk at this
  simp only [Bool.and_eq_true] at this
  exact ⟨of_decide_eq_true this.1, cellB_is.mp this.2.1, cellB_is.mp this.2.2.1, cellB_is.mp this.2.2.2⟩
theorem iFollows (x y : S58) : impl_follows.f x.f0 x.f1 x.f2 x.f3 y.f0 y.f1 y.f2 y.f3 = some (mst x y) := by
  unfold impl_follows.f mst
  by_cases h0 : x.f1 = y.f2
  · rw [if_pos h0, if_pos h0]
  rw [if_neg h0, if_neg h0]
  by_cases h1 : x.f1 = y.f3
  · rw [if_pos h1, if_pos h1]
  rw [if_neg h1, if_neg h1]
  by_cases h2 : x.f1 = y.f1
  · rw [if_pos h2, if_pos h2]
  rw [if_neg h2, if_neg h2]
  by_cases h3 : y.f1 = x.f2
  · rw [if_pos h3, if_pos h3]
  rw [if_neg h3, if_neg h3]
  rfl
theorem sub_len {α : Type} [DecidableEq α] : ∀ (ys xs : List α), xs.Nodup → (∀ x ∈ xs, x ∈ ys) → xs.length ≤ ys.length := by
  intro ys
  induction ys with
  | nil =>
    intro xs _ h
    cases xs with
    | nil => simp
    | cons x xs => exact absurd (h x List.mem_cons_self) (by simp)
  | cons y ys ih =>
    intro xs hn h
    by_cases hy : y ∈ xs
    · have h1 := ih (xs.erase y) (hn.erase y) (fun x hx => by
        have h2 := (List.Nodup.mem_erase_iff hn).mp hx
        rcases List.mem_cons.mp (h x h2.2) with h3 | h3
        · exact absurd h3 h2.1
        · exact h3)
      rw [List.length_erase_of_mem hy] at h1
      simp only [List.length_cons]
      omega
    · have h1 := ih xs hn (fun x hx => by
        rcases List.mem_cons.mp (h x hx) with h3 | h3
        · exact absurd (h3 ▸ hx) hy
        · exact h3)
      simp only [List.length_cons]
      omega
/-- The numbers 0 to n - 1. -/
def nums (n : Nat) : List Int := (List.range n).map fun (i : Nat) => (i : Int)
theorem nums_len (n : Nat) : (nums n).length = n := by unfold nums; simp
theorem nums_mem {n : Nat} {x : Int} : x ∈ nums n ↔ 0 ≤ x ∧ x < (n : Int) := by
  unfold nums
  rw [List.mem_map]
  constructor
  · rintro ⟨i, hi, rfl⟩
    have := List.mem_range.mp hi
    omega
  · intro ⟨h0, h1⟩
    exact ⟨x.toNat, List.mem_range.mpr (by omega), by omega⟩
theorem nums_nodup (n : Nat) : (nums n).Nodup := by
  unfold nums
  rw [List.nodup_iff_pairwise_ne, List.pairwise_map]
  refine List.Pairwise.imp ?_ (List.nodup_iff_pairwise_ne.mp List.nodup_range)
  intro a b h1 h2
  exact h1 (by omega)
theorem rd_get {o : List Int} {k : Nat} (h : k < o.length) : rd o (k : Int) = o[k] := by
  rw [rd_nat, List.getD_eq_getElem?_getD, List.getElem?_eq_getElem h]; rfl
/-- Where a list has each number below its length once. -/
theorem inj_surj {o : List Int} (hr : ∀ k, k < o.length → 0 ≤ rd o (k : Int) ∧ rd o (k : Int) < (o.length : Int)) (hi : ∀ j k, j < k → k < o.length → rd o (j : Int) ≠ rd o (k : Int)) : ∀ i : Nat, i < o.length → ∃ k, k < o.length ∧ rd o (k : Int) = (i : Int) := by
  intro i hlt
  have hn : o.Nodup := by
    rw [List.nodup_iff_pairwise_ne, List.pairwise_iff_getElem]
    intro a b ha hb hab
    have := hi a b hab hb
    rwa [rd_get ha, rd_get hb] at this
  by_cases hm : (i : Int) ∈ o
  · obtain ⟨k, hk, e⟩ := List.getElem_of_mem hm
    exact ⟨k, hk, by rw [rd_get hk]; exact e⟩
  · have h1 := sub_len (nums o.length) ((i : Int) :: o) (List.nodup_cons.mpr ⟨hm, hn⟩) (fun x hx => by
      rw [nums_mem]
      rcases List.mem_cons.mp hx with h | h
      · subst h; omega
      · obtain ⟨k, hk, e⟩ := List.getElem_of_mem h
        have := hr k hk
        rwa [rd_get hk, e] at this)
    rw [nums_len, List.length_cons] at h1
    omega
theorem surj_inj {o : List Int} (hs : ∀ i : Nat, i < o.length → ∃ k, k < o.length ∧ rd o (k : Int) = (i : Int)) : (∀ k, k < o.length → 0 ≤ rd o (k : Int) ∧ rd o (k : Int) < (o.length : Int)) ∧ (∀ j k, j < k → k < o.length → rd o (j : Int) ≠ rd o (k : Int)) := by
  have key : ∀ k, k < o.length → (∀ i : Nat, i < o.length → ∃ j, j < o.length ∧ j ≠ k ∧ rd o (j : Int) = (i : Int)) → False := by
    intro k hk h
    have h1 := sub_len (o.eraseIdx k) (nums o.length) (nums_nodup _) (fun x hx => by
      obtain ⟨h0, h1⟩ := nums_mem.mp hx
      obtain ⟨j, hj, hne, e⟩ := h x.toNat (by omega)
      rw [List.mem_eraseIdx_iff_getElem]
      refine ⟨j, hj, hne, ?_⟩
      rw [← rd_get hj, e]; omega)
    rw [nums_len, List.length_eraseIdx_of_lt hk] at h1
    omega
  refine ⟨fun k hk => ?_, fun j k hjk hk he => ?_⟩
  · by_cases h : 0 ≤ rd o (k : Int) ∧ rd o (k : Int) < (o.length : Int)
    · exact h
    · refine absurd (fun i hi => ?_) (key k hk)
      obtain ⟨j, hj, e⟩ := hs i hi
      exact ⟨j, hj, fun hjk => by subst hjk; rw [e] at h; omega, e⟩
  · refine key k hk (fun i hi => ?_)
    obtain ⟨m, hm, e⟩ := hs i hi
    by_cases hmk : m = k
    · subst hmk
      exact ⟨j, by omega, by omega, by rw [he]; exact e⟩
    · exact ⟨m, hm, hmk, e⟩
/-- The first place of a number in a list. -/
def Fst (o : List Int) (n : Int) (k : Nat) : Prop := k < o.length ∧ rd o (k : Int) = n ∧ ∀ j, j < k → rd o (j : Int) ≠ n
theorem iIndex (o : List Int) (n : Int) (ho : o.length ≤ 1048576) : ∃ r, Ev (fun k => slices_Index_int64_int64.f k o n) r ∧ ((∃ k : Nat, Fst o n k ∧ r = (k : Int)) ∨ (r = -1 ∧ ∀ j, j < o.length → rd o (j : Int) ≠ n)) := by
  unfold slices_Index_int64_int64.f
  have key : ∀ d i : Nat, i + d = o.length → (∀ j, j < i → rd o (j : Int) ≠ n) → ∃ r, Ev (fun k => slices_Index_int64_int64.l0 k o n (o.length : Int) (i : Int)) r ∧ ((∃ k : Nat, Fst o n k ∧ r = (k : Int)) ∨ (r = -1 ∧ ∀ j, j < o.length → rd o (j : Int) ≠ n)) := by
    intro d
    induction d with
    | zero =>
      intro i hi hn
      refine ⟨-1, ⟨1, fun k hk => ?_⟩, .inr ⟨rfl, fun j hj => hn j (by omega)⟩⟩
      obtain ⟨k, rfl⟩ : ∃ m, k = m + 1 := ⟨k - 1, by omega⟩
      simp only [slices_Index_int64_int64.l0]
      rw [if_neg (by omega)]
    | succ d ih =>
      intro i hi hn
      by_cases h : n = rd o (i : Int)
      · refine ⟨(i : Int), ⟨1, fun k hk => ?_⟩, .inl ⟨i, ⟨by omega, h.symm, hn⟩, rfl⟩⟩
        obtain ⟨k, rfl⟩ : ∃ m, k = m + 1 := ⟨k - 1, by omega⟩
        simp only [slices_Index_int64_int64.l0]
        rw [if_pos (by omega), if_pos (by omega), if_pos (by omega), if_pos h]
      · obtain ⟨r, hr, hp⟩ := ih (i + 1) (by omega) (fun j hj => by
          rcases Nat.lt_succ_iff_lt_or_eq.mp hj with h1 | h1
          · exact hn j h1
          · rw [h1]; exact fun e => h e.symm)
        refine ⟨r, Ev.step (fun k => ?_) hr, hp⟩
        simp only [slices_Index_int64_int64.l0]
        rw [if_pos (by omega), if_pos (by omega), if_pos (by omega), if_neg h, w1 (by omega)]
  exact key o.length 0 (by omega) (fun j hj => absurd hj (Nat.not_lt_zero _))
theorem rd_set_same {t : List Int} {i : Nat} {v : Int} (h : i < t.length) : rd (t.set i v) (i : Int) = v := by
  rw [rd_nat, List.getD_eq_getElem?_getD, List.getElem?_set_self h]; rfl
theorem rd_set_other {t : List Int} {i j : Nat} {v : Int} (h : j ≠ i) : rd (t.set i v) (j : Int) = rd t (j : Int) := by
  rw [rd_nat, rd_nat, List.getD_eq_getElem?_getD, List.getD_eq_getElem?_getD, List.getElem?_set_ne (by omega)]
def PlacesOk (o at_ : List Int) (n : Nat) : Prop := o.length = n ∧ at_.length = n ∧ ∀ i : Nat, i < n → ∃ k : Nat, Fst o (i : Int) k ∧ rd at_ (i : Int) = (k : Int)
theorem iPlaces (o : List Int) (n : Nat) (ho : o.length ≤ 1048576) : ∃ (at_ : List Int) (two : Bool), Ev (fun k => impl_places.f k o (n : Int)) (at_, two) ∧ ((two = true ∧ PlacesOk o at_ n) ∨ (two = false ∧ (o.length ≠ n ∨ ∃ i : Nat, i < n ∧ ∀ j, j < o.length → rd o (j : Int) ≠ (i : Int)))) := by
  unfold impl_places.f
  by_cases hl : o.length = n
  rotate_left
  · exact ⟨[], false, ev_else (by omega) (Ev.now _), .inr ⟨rfl, .inl hl⟩⟩
  have key : ∀ d i : Nat, i + d = n → ∀ t : List Int, t.length = n → (∀ j : Nat, j < i → ∃ k : Nat, Fst o (j : Int) k ∧ rd t (j : Int) = (k : Int)) → ∃ (at_ : List Int) (two : Bool), Ev (fun k => impl_places.l0 k o t (n : Int) (i : Int)) (at_, two) ∧ ((two = true ∧ PlacesOk o at_ n) ∨ (two = false ∧ (o.length ≠ n ∨ ∃ i : Nat, i < n ∧ ∀ j, j < o.length → rd o (j : Int) ≠ (i : Int)))) := by
    intro d
    induction d with
    | zero =>
      intro i hi t ht hp
      refine ⟨t, true, ⟨1, fun k hk => ?_⟩, .inl ⟨rfl, hl, ht, fun j hj => hp j (by omega)⟩⟩
      obtain ⟨k, rfl⟩ : ∃ m, k = m + 1 := ⟨k - 1, by omega⟩
      simp only [impl_places.l0]
      rw [if_neg (by omega)]
    | succ d ih =>
      intro i hi t ht hp
      obtain ⟨r, hr, hor⟩ := iIndex o (i : Int) ho
      have hst : ∀ {at_ : List Int} {two : Bool}, Ev (fun k => if rd (t.set i r) (i : Int) < 0 then some (([] : List Int), false) else impl_places.l0 k o (t.set i r) (n : Int) ((i + 1 : Nat) : Int)) (at_, two) → Ev (fun k => impl_places.l0 k o t (n : Int) (i : Int)) (at_, two) := fun h => by
        refine Ev.step (f := fun k => (slices_Index_int64_int64.f k o (i : Int)).bind fun u => if rd (t.set i u) (i : Int) < 0 then some (([] : List Int), false) else impl_places.l0 k o (t.set i u) (n : Int) ((i + 1 : Nat) : Int)) (fun k => ?_) (Ev.bind hr h)
        simp only [impl_places.l0]
        rw [if_pos (by omega)]
        congr 1
        funext u
        rw [if_pos (by omega), if_pos (by omega), Int.toNat_natCast, w1 (by omega)]
        rfl
      rcases hor with ⟨k, hk, rfl⟩ | ⟨rfl, hno⟩
      · obtain ⟨at_, two, h1, h2⟩ := ih (i + 1) (by omega) (t.set i (k : Int)) (by simp; exact ht) (fun j hj => by
          rcases Nat.lt_succ_iff_lt_or_eq.mp hj with h1 | h1
          · obtain ⟨k2, hk2, e⟩ := hp j h1
            exact ⟨k2, hk2, by rw [rd_set_other (by omega)]; exact e⟩
          · subst h1
            exact ⟨k, hk, rd_set_same (by omega)⟩)
        exact ⟨at_, two, hst (ev_else (by rw [rd_set_same (by omega)]; omega) h1), h2⟩
      · exact ⟨[], false, hst (ev_if (by rw [rd_set_same (by omega)]; omega) (Ev.now _)), .inr ⟨rfl, .inr ⟨i, by omega, hno⟩⟩⟩
  obtain ⟨at_, two, h1, h2⟩ := key n 0 (by omega) (List.replicate n 0) (by simp) (fun j hj => absurd hj (Nat.not_lt_zero _))
  refine ⟨at_, two, ev_if (by omega) (ev_if (by omega) (ev_if (by omega) ?_)), h2⟩
  refine ev_some ?_
  rw [Int.toNat_natCast, List.length_replicate]
  exact h1
/-- The pairs of i with the first c statements behind it. -/
def rowc (l : List S58) (i : Nat) : Nat → List (List Int)
  | 0 => []
  | c + 1 => rowc l i c ++ (if mst (rd_T58 l (i : Int)) (rd_T58 l ((i + 1 + c : Nat) : Int)) = true then [[(i : Int), ((i + 1 + c : Nat) : Int)]] else [])
def depsTo (l : List S58) : Nat → List (List Int)
  | 0 => []
  | i + 1 => depsTo l i ++ rowc l i (l.length - 1 - i)
theorem depsTo_succ (l : List S58) (i : Nat) : depsTo l (i + 1) = depsTo l i ++ rowc l i (l.length - 1 - i) := rfl
theorem rowc_len (l : List S58) (i c : Nat) : (rowc l i c).length ≤ c := by
  induction c with
  | zero => simp [rowc]
  | succ c ih =>
    unfold rowc
    rw [List.length_append]
    split
    · simp only [List.length_cons, List.length_nil]; omega
    · simp only [List.length_nil]; omega
theorem depsTo_len (l : List S58) (i : Nat) : (depsTo l i).length ≤ i * l.length := by
  induction i with
  | zero => simp [depsTo]
  | succ i ih =>
    unfold depsTo
    have := rowc_len l i (l.length - 1 - i)
    rw [List.length_append, Nat.succ_mul]
    omega
theorem rowc_mem {l : List S58} {i c : Nat} {p : List Int} : p ∈ rowc l i c ↔ ∃ b : Nat, i < b ∧ b < i + 1 + c ∧ mst (rd_T58 l (i : Int)) (rd_T58 l (b : Int)) = true ∧ p = [(i : Int), (b : Int)] := by
  induction c with
  | zero =>
    unfold rowc
    exact ⟨fun h => absurd h (by simp), fun ⟨b, h1, h2, _⟩ => absurd h1 (by omega)⟩
  | succ c ih =>
    unfold rowc
    rw [List.mem_append, ih]
    constructor
    · rintro (⟨b, h1, h2, h3⟩ | h)
      · exact ⟨b, h1, by omega, h3⟩
      · by_cases hm : mst (rd_T58 l (i : Int)) (rd_T58 l ((i + 1 + c : Nat) : Int)) = true
        · rw [if_pos hm, List.mem_singleton] at h
          exact ⟨i + 1 + c, by omega, by omega, hm, h⟩
        · rw [if_neg hm] at h
          cases h
    · rintro ⟨b, h1, h2, h3, h4⟩
      by_cases hb : b = i + 1 + c
      · subst hb
        right
        rw [if_pos h3, List.mem_singleton]
        exact h4
      · exact .inl ⟨b, h1, by omega, h3, h4⟩
theorem depsTo_mem {l : List S58} {n : Nat} (hn : n ≤ l.length) {p : List Int} : p ∈ depsTo l n ↔ ∃ a b : Nat, a < n ∧ a < b ∧ b < l.length ∧ mst (rd_T58 l (a : Int)) (rd_T58 l (b : Int)) = true ∧ p = [(a : Int), (b : Int)] := by
  induction n with
  | zero =>
    unfold depsTo
    exact ⟨fun h => absurd h (by simp), fun ⟨a, b, h1, _⟩ => absurd h1 (Nat.not_lt_zero _)⟩
  | succ n ih =>
    unfold depsTo
    rw [List.mem_append, ih (by omega), rowc_mem]
    constructor
    · rintro (⟨a, b, h1, h2⟩ | ⟨b, h1, h2, h3, h4⟩)
      · exact ⟨a, b, by omega, h2⟩
      · exact ⟨n, b, by omega, h1, by omega, h3, h4⟩
    · rintro ⟨a, b, h1, h2, h3, h4, h5⟩
      by_cases ha : a = n
      · subst ha
        exact .inr ⟨b, h2, by omega, h4, h5⟩
      · exact .inl ⟨a, b, by omega, h2, h3, h4, h5⟩
theorem iDeps (l : List S58) (hv : cOk l = true) : Ev (fun k => impl_DependencesOf.f k l) (depsTo l l.length, true) := by
  have h16 := cOk_len hv
  have hsq : ∀ i, i ≤ l.length → (depsTo l i).length ≤ 256 := fun i hi => Nat.le_trans (depsTo_len l i) (Nat.le_trans (Nat.mul_le_mul hi (Nat.le_refl _)) (Nat.le_trans (Nat.mul_le_mul h16 h16) (by decide)))
  unfold impl_DependencesOf.f
  simp only [iValid]
  refine ev_some (ev_if hv ?_)
  have key : ∀ d i : Nat, i + d = l.length → Ev (fun k => impl_DependencesOf.l0 k l (depsTo l i) (l.length : Int) (i : Int)) (depsTo l l.length, true) := by
    intro d
    induction d with
    | zero =>
      intro i hi
      obtain rfl : i = l.length := by omega
      refine ⟨1, fun k hk => ?_⟩
      obtain ⟨k, rfl⟩ : ∃ m, k = m + 1 := ⟨k - 1, by omega⟩
      simp only [impl_DependencesOf.l0]
      rw [if_neg (by omega)]
    | succ d ih =>
      intro i hi
      have hn := ih (i + 1) (by omega)
      have inner : ∀ e c : Nat, i + 1 + c + e = l.length → Ev (fun k => impl_DependencesOf.l1 k l (depsTo l i ++ rowc l i c) (i : Int) ((i + 1 + c : Nat) : Int) (l.length : Int) (i : Int)) (depsTo l l.length, true) := by
        intro e
        induction e with
        | zero =>
          intro c hc
          refine Ev.step (fun k => ?_) hn
          simp only [impl_DependencesOf.l1]
          rw [if_neg (by omega), w1 (by omega), depsTo_succ]
          rw [show l.length - 1 - i = c by omega]
        | succ e ih2 =>
          intro c hc
          have hl1 := hsq i (by omega)
          have hl2 := rowc_len l i c
          have hnx := ih2 (c + 1) (by omega)
          unfold rowc at hnx
          cases hm : mst (rd_T58 l (i : Int)) (rd_T58 l ((i + 1 + c : Nat) : Int)) with
          | true =>
            rw [hm, if_pos rfl, ← List.append_assoc] at hnx
            refine Ev.step (fun k => ?_) hnx
            simp only [impl_DependencesOf.l1]
            rw [if_pos (by omega), if_pos (by omega), if_pos (by omega), if_pos (by omega), iFollows, Option.bind_some, hm, if_pos rfl, if_pos (by rw [List.length_append]; omega), w1 (by omega)]
            rfl
          | false =>
            rw [hm, if_neg (by decide), List.append_nil] at hnx
            refine Ev.step (fun k => ?_) hnx
            simp only [impl_DependencesOf.l1]
            rw [if_pos (by omega), if_pos (by omega), if_pos (by omega), if_pos (by omega), iFollows, Option.bind_some, hm, if_neg (by decide), w1 (by omega)]
            rfl
      have h0 := inner (l.length - (i + 1)) 0 (by omega)
      refine Ev.step (fun k => ?_) h0
      simp only [impl_DependencesOf.l0]
      rw [if_pos (by omega), w1 (by omega)]
      simp [rowc]
  exact key l.length 0 (by omega)
theorem has_iff {o : List Int} {x : Nat} {n : Int} (hx : x ≤ o.length) : hasB (o.take x) n = true ↔ ∃ j, j < x ∧ rd o (j : Int) = n := by
  unfold hasB
  rw [List.any_eq_true]
  constructor
  · rintro ⟨y, hy, he⟩
    obtain ⟨j, hj, e⟩ := List.getElem_of_mem hy
    rw [List.length_take] at hj
    refine ⟨j, by omega, ?_⟩
    rw [rd_get (by omega), ← of_decide_eq_true he, ← e, List.getElem_take]
  · rintro ⟨j, hj, e⟩
    refine ⟨n, ?_, by simp⟩
    rw [List.mem_iff_getElem]
    exact ⟨j, by rw [List.length_take]; omega, by rw [List.getElem_take, ← rd_get (by omega)]; exact e⟩
theorem okAt_iff {l : List S58} {o : List Int} {x : Nat} (hx : x ≤ o.length) : okAt l o x = true ↔ (0 ≤ rd o (x : Int) ∧ rd o (x : Int) ≤ (l.length : Int) - 1) ∧ (∀ j, j < x → rd o (j : Int) ≠ rd o (x : Int)) ∧ ∀ i : Nat, i < (rd o (x : Int)).toNat → mst (rd_T58 l (i : Int)) (rd_T58 l (rd o (x : Int))) = true → ∃ j, j < x ∧ rd o (j : Int) = (i : Int) := by
  unfold okAt
  rw [Bool.and_eq_true, Bool.and_eq_true, decide_eq_true_iff, List.all_eq_true]
  refine and_congr Iff.rfl (and_congr ?_ ?_)
  · rw [Bool.not_eq_true', ← Bool.not_eq_true, has_iff hx]
    exact ⟨fun h j hj e => h ⟨j, hj, e⟩, fun h ⟨j, hj, e⟩ => h j hj e⟩
  · constructor
    · intro h i hi hm
      have := h i (List.mem_range.mpr hi)
      unfold inAt at this
      rw [hm, Bool.true_and, Bool.not_not] at this
      exact (has_iff hx).mp this
    · intro h i hi
      unfold inAt
      cases hm : mst (rd_T58 l (i : Int)) (rd_T58 l (rd o (x : Int))) with
      | false => rfl
      | true =>
        rw [(has_iff hx).mpr (h i (List.mem_range.mp hi) hm)]; rfl
theorem ordB_iff {l : List S58} {o : List Int} : ordB l o = true ↔ o.length = l.length ∧ ∀ x, x < o.length → okAt l o x = true := by
  unfold ordB
  rw [Bool.and_eq_true, decide_eq_true_iff, List.all_eq_true]
  exact and_congr Iff.rfl ⟨fun h x hx => h x (List.mem_range.mpr hx), fun h x hx => h x (List.mem_range.mp hx)⟩
theorem ord_surj {l : List S58} {o : List Int} (h : ordB l o = true) : ∀ i : Nat, i < o.length → ∃ k, k < o.length ∧ rd o (k : Int) = (i : Int) := by
  obtain ⟨he, h⟩ := ordB_iff.mp h
  refine inj_surj (fun k hk => ?_) (fun j k hj hk => ?_)
  · have := ((okAt_iff (by omega)).mp (h k hk)).1
    omega
  · exact ((okAt_iff (by omega)).mp (h k hk)).2.1 j hj
theorem ord_pairs {l : List S58} {o at_ : List Int} (hp : PlacesOk o at_ l.length) : ordB l o = true ↔ ∀ a b : Nat, a < b → b < l.length → mst (rd_T58 l (a : Int)) (rd_T58 l (b : Int)) = true → rd at_ (a : Int) < rd at_ (b : Int) := by
  obtain ⟨hl, ha, hk⟩ := hp
  obtain ⟨hrg, hinj⟩ := surj_inj (o := o) (fun i hi => by
    obtain ⟨k, ⟨h1, h2, _⟩, _⟩ := hk i (by omega)
    exact ⟨k, h1, h2⟩)
  have huniq : ∀ j k, j < o.length → k < o.length → rd o (j : Int) = rd o (k : Int) → j = k := fun j k hj hk e => by
    rcases Nat.lt_trichotomy j k with h | h | h
    · exact absurd e (hinj j k h hk)
    · exact h
    · exact absurd e.symm (hinj k j h hj)
  rw [ordB_iff]
  constructor
  · rintro ⟨_, h⟩ a b hab hb hm
    obtain ⟨kb, ⟨b1, b2, b3⟩, eb⟩ := hk b hb
    obtain ⟨ka, ⟨a1, a2, a3⟩, ea⟩ := hk a (by omega)
    obtain ⟨_, _, h3⟩ := (okAt_iff (by omega)).mp (h kb b1)
    rw [b2] at h3
    obtain ⟨j, hj, e⟩ := h3 a (by omega) hm
    have : ¬ j < ka := fun hlt => a3 j hlt e
    rw [ea, eb]
    omega
  · intro h
    refine ⟨hl, fun x hx => (okAt_iff (by omega)).mpr ⟨?_, fun j hj => hinj j x hj hx, fun i hi hm => ?_⟩⟩
    · have := hrg x hx
      omega
    · obtain ⟨r0, r1⟩ := hrg x hx
      obtain ⟨b, hb⟩ : ∃ b : Nat, rd o (x : Int) = (b : Int) := ⟨(rd o (x : Int)).toNat, by omega⟩
      rw [hb] at hm hi
      have hlt := h i b (by omega) (by omega) hm
      obtain ⟨kb, ⟨b1, b2, _⟩, eb⟩ := hk b (by omega)
      obtain ⟨ki, ⟨i1, i2, _⟩, ei⟩ := hk i (by omega)
      have : kb = x := huniq kb x b1 hx (by rw [b2, hb])
      subst this
      exact ⟨ki, by rw [ei, eb] at hlt; omega, i2⟩
theorem iIsOrder (l : List S58) (o : List Int) (hl : l.length ≤ 1048576) (ho : o.length ≤ 1048576) : Ev (fun k => impl_IsOrder.f k l o) (cOk l && ordB l o) := by
  unfold impl_IsOrder.f
  obtain ⟨at_, two, hp, hor⟩ := iPlaces o l.length ho
  cases hv : cOk l with
  | false =>
    have h0 : Ev (fun k => impl_DependencesOf.f k l) ([], false) := by
      unfold impl_DependencesOf.f
      simp only [iValid]
      exact ev_some (ev_else (by rw [hv]; decide) (Ev.now _))
    exact Ev.bind h0 (Ev.bind hp (ev_else (show ¬ (false = true) by decide) (Ev.now _)))
  | true =>
    refine Ev.bind (iDeps l hv) (Ev.bind hp (ev_if rfl ?_))
    rcases hor with ⟨rfl, hk⟩ | ⟨rfl, hno⟩
    · have hmem : ∀ j, j < (depsTo l l.length).length → rdL (depsTo l l.length) (j : Int) ∈ depsTo l l.length := fun j hj => by
        unfold rdL
        rw [Int.toNat_natCast, List.getD_eq_getElem?_getD, List.getElem?_eq_getElem hj]
        exact List.getElem_mem hj
      refine ev_if rfl (ev_if ?_ ?_)
      · refine List.all_eq_true.mpr fun j hj => ?_
        obtain ⟨a, b, h1, h2, h3, _, e⟩ := (depsTo_mem (Nat.le_refl _)).mp (hmem j (List.mem_range.mp hj))
        rw [e]
        unfold pOk
        have := hk.2.1
        refine decide_eq_true ⟨rfl, ⟨?_, ?_⟩, ?_, ?_⟩
        · show 0 ≤ (a : Int); omega
        · show (a : Int) < (at_.length : Int); omega
        · show 0 ≤ (b : Int); omega
        · show (b : Int) < (at_.length : Int); omega
      · have e : ((List.range (depsTo l l.length).length).all fun j => befB at_ (rdL (depsTo l l.length) (j : Int))) = (true && ordB l o) := by
          rw [Bool.true_and, Bool.eq_iff_iff, ord_pairs hk, List.all_eq_true]
          constructor
          · intro h a b hab hb hm
            have hin := (depsTo_mem (l := l) (Nat.le_refl l.length) (p := [(a : Int), (b : Int)])).mpr ⟨a, b, by omega, hab, hb, hm, rfl⟩
            obtain ⟨j, hj, e⟩ := List.getElem_of_mem hin
            have h2 := h j (List.mem_range.mpr hj)
            unfold befB rdL at h2
            rw [Int.toNat_natCast, List.getD_eq_getElem?_getD, List.getElem?_eq_getElem hj] at h2
            have h3 := of_decide_eq_true h2
            rw [Option.getD_some, e] at h3
            exact h3
          · intro h j hj
            obtain ⟨a, b, h1, h2, h3, h4, e⟩ := (depsTo_mem (Nat.le_refl _)).mp (hmem j (List.mem_range.mp hj))
            rw [e]
            unfold befB
            exact decide_eq_true (h a b h2 h3 h4)
        rw [← e]
        exact Ev.now _
    · have e : ordB l o = false := by
        rw [← Bool.not_eq_true]
        intro h
        rcases hno with hne | ⟨i, hi, hno⟩
        · exact hne (ordB_iff.mp h).1
        · obtain ⟨k, hk, e⟩ := ord_surj h i (by have := (ordB_iff.mp h).1; omega)
          exact hno k hk e
      rw [e]
      exact ev_else (show ¬ (false = true) by decide) (Ev.now _)
def sm : Nat → (Nat → Nat) → Nat
  | 0, _ => 0
  | n + 1, f => sm n f + f n
theorem sm_congr {f g : Nat → Nat} : ∀ n : Nat, (∀ j, j < n → f j = g j) → sm n f = sm n g
  | 0, _ => rfl
  | n + 1, h => by unfold sm; rw [sm_congr n (fun j hj => h j (by omega)), h n (by omega)]
theorem sm_le {f : Nat → Nat} {b : Nat} : ∀ n : Nat, (∀ j, j < n → f j ≤ b) → sm n f ≤ n * b
  | 0, _ => by unfold sm; omega
  | n + 1, h => by
    have h1 := sm_le n (fun j hj => h j (by omega))
    have h2 := h n (by omega)
    have h3 : (n + 1) * b = n * b + b := Nat.succ_mul n b
    unfold sm; omega
theorem sm_zero : ∀ n : Nat, sm n (fun _ => 0) = 0
  | 0 => rfl
  | n + 1 => by show sm n _ + 0 = 0; rw [sm_zero n]
theorem sm_one {f g : Nat → Nat} {i : Nat} : ∀ n : Nat, i < n → (∀ j, j < n → j ≠ i → g j = f j) → sm n g + f i = sm n f + g i
  | 0, h, _ => by omega
  | n + 1, h, he => by
    unfold sm
    by_cases hi : i = n
    · subst hi
      rw [sm_congr (f := g) (g := f) i (fun j hj => he j (by omega) (by omega))]
      omega
    · have h1 := sm_one n (by omega) (fun j hj hne => he j (by omega) hne)
      have h2 := he n (by omega) (fun h => hi h.symm)
      omega
theorem sm_ge {f : Nat → Nat} {i : Nat} : ∀ n : Nat, i < n → f i ≤ sm n f
  | 0, h => by omega
  | n + 1, h => by
    unfold sm
    by_cases hi : i = n
    · subst hi; omega
    · have := sm_ge (f := f) (i := i) n (by omega); omega
/-- How many of the first n bits are set. -/
def pc : Nat → Nat → Nat
  | 0, _ => 0
  | n + 1, T => pc n T + if T.testBit n then 1 else 0
theorem tb_xor (T j i : Nat) : (T ^^^ 2 ^ j).testBit i = (T.testBit i ^^ decide (j = i)) := by rw [Nat.testBit_xor, Nat.testBit_two_pow]
theorem tb_or (T j i : Nat) : (T ||| 2 ^ j).testBit i = (T.testBit i || decide (j = i)) := by rw [Nat.testBit_or, Nat.testBit_two_pow]
theorem pc_far {T j : Nat} : ∀ n : Nat, n ≤ j → pc n (T ^^^ 2 ^ j) = pc n T
  | 0, _ => rfl
  | n + 1, h => by
    unfold pc
    rw [pc_far n (by omega), tb_xor, decide_eq_false (by omega : ¬ j = n), Bool.xor_false]
theorem pc_xor {T j : Nat} (hj : T.testBit j = true) : ∀ n : Nat, j < n → pc n T = pc n (T ^^^ 2 ^ j) + 1
  | 0, h => by omega
  | n + 1, h => by
    unfold pc
    rw [tb_xor]
    by_cases e : j = n
    · subst e
      rw [pc_far j (Nat.le_refl _), hj, decide_eq_true rfl]
      rfl
    · have := pc_xor hj n (by omega)
      rw [decide_eq_false e, Bool.xor_false, this]
      omega
theorem pc_le (T : Nat) : ∀ n : Nat, pc n T ≤ n
  | 0 => Nat.le_refl _
  | n + 1 => by unfold pc; have := pc_le T n; split <;> omega
theorem pc_nil : ∀ n : Nat, pc n 0 = 0
  | 0 => rfl
  | n + 1 => by unfold pc; rw [pc_nil n, Nat.zero_testBit]; rfl
theorem pc_pos {T : Nat} : ∀ n : Nat, T ≠ 0 → T < 2 ^ n → ∃ j, j < n ∧ T.testBit j = true := by
  intro n h0 hT
  obtain ⟨j, hj⟩ := Nat.exists_testBit_of_ne_zero h0
  refine ⟨j, ?_, hj⟩
  by_cases h : j < n
  · exact h
  · have := Nat.testBit_lt_two_pow (Nat.lt_of_lt_of_le hT (Nat.pow_le_pow_right (by decide) (by omega : n ≤ j)))
    rw [this] at hj; cases hj
theorem xor_lt {T j : Nat} (h : T.testBit j = true) : T ^^^ 2 ^ j < T := by
  have hb : (T ^^^ 2 ^ j).testBit j = false := by rw [tb_xor, h, decide_eq_true rfl]; rfl
  have e : T &&& (T ^^^ 2 ^ j) = T ^^^ 2 ^ j := by
    apply Nat.eq_of_testBit_eq
    intro i
    rw [Nat.testBit_and, tb_xor]
    by_cases e : j = i
    · subst e; rw [h, decide_eq_true rfl]; rfl
    · rw [decide_eq_false e]; simp
  have h1 : T &&& (T ^^^ 2 ^ j) ≤ T := Nat.and_le_left
  rw [e] at h1
  have h2 : T ^^^ 2 ^ j ≠ T := by intro h2; rw [h2, h] at hb; cases hb
  omega
theorem bit_iff {T d i : Nat} (h : d.testBit i = false) : (T.testBit i = true ∧ T ^^^ 2 ^ i = d) ↔ T = d ||| 2 ^ i := by
  constructor
  · rintro ⟨h1, h2⟩
    apply Nat.eq_of_testBit_eq
    intro j
    rw [tb_or, ← h2, tb_xor]
    by_cases e : i = j
    · subst e; rw [h1, decide_eq_true rfl]; rfl
    · rw [decide_eq_false e]; simp
  · rintro rfl
    refine ⟨by rw [tb_or, decide_eq_true rfl, Bool.or_true], ?_⟩
    apply Nat.eq_of_testBit_eq
    intro j
    rw [tb_xor, tb_or]
    by_cases e : i = j
    · subst e; rw [h, decide_eq_true rfl]; rfl
    · rw [decide_eq_false e]; simp
/-- Statement i can stand behind those of a set. -/
def okN (l : List S58) (d i : Nat) : Bool := !(d.testBit i) && (List.range i).all fun j => d.testBit j || !(mst (rd_T58 l (j : Int)) (rd_T58 l (i : Int)))
theorem okN_free {l : List S58} {d i : Nat} (h : okN l d i = true) : d.testBit i = false := by
  unfold okN at h
  rw [Bool.and_eq_true] at h
  simpa using h.1
/-- In how many ways the statements of a set can stand first, m of them. -/
def cnt (l : List S58) : Nat → Nat → Nat
  | 0, T => if T = 0 then 1 else 0
  | m + 1, T => sm l.length fun j => if (T.testBit j && okN l (T ^^^ 2 ^ j) j) = true then cnt l m (T ^^^ 2 ^ j) else 0
theorem cnt_le (l : List S58) : ∀ m T : Nat, cnt l m T ≤ l.length ^ m
  | 0, T => by unfold cnt; split <;> simp
  | m + 1, T => by
    unfold cnt
    rw [Nat.pow_succ, Nat.mul_comm]
    refine sm_le l.length (fun j _ => ?_)
    split
    · exact cnt_le l m _
    · omega
def cntG (l : List S58) (T : Nat) : Nat := cnt l (pc l.length T) T
theorem cntG_le {l : List S58} (h : l.length ≤ 10) (T : Nat) : cntG l T ≤ 10000000000 := by
  unfold cntG
  refine Nat.le_trans (cnt_le l _ _) ?_
  refine Nat.le_trans (Nat.pow_le_pow_left h _) ?_
  exact Nat.le_trans (Nat.pow_le_pow_right (by decide) (Nat.le_trans (pc_le T l.length) h)) (by decide)
/-- The table behind the sets below d, and behind the first i statements for d itself. -/
def F (l : List S58) (d i T : Nat) : Nat := if T = 0 then 1 else sm l.length fun j => if (T.testBit j && okN l (T ^^^ 2 ^ j) j && (decide (T ^^^ 2 ^ j < d) || (decide (T ^^^ 2 ^ j = d) && decide (j < i)))) = true then cntG l (T ^^^ 2 ^ j) else 0
theorem F_le {l : List S58} (h : l.length ≤ 10) (d i T : Nat) : F l d i T ≤ 100000000000 := by
  unfold F
  split
  · omega
  · refine Nat.le_trans (sm_le (b := 10000000000) l.length (fun j _ => ?_)) (by omega)
    split
    · exact cntG_le h _
    · omega
theorem F_next (l : List S58) (d T : Nat) : F l d l.length T = F l (d + 1) 0 T := by
  unfold F
  split
  · rfl
  · refine sm_congr _ (fun j hj => ?_)
    have e : (decide (T ^^^ 2 ^ j < d) || (decide (T ^^^ 2 ^ j = d) && decide (j < l.length))) = (decide (T ^^^ 2 ^ j < d + 1) || (decide (T ^^^ 2 ^ j = d + 1) && decide (j < 0))) := by
      rw [decide_eq_true hj, decide_eq_false (by omega : ¬ j < 0), Bool.and_true, Bool.and_false, Bool.or_false, ← Bool.decide_or]
      exact decide_eq_decide.mpr (by omega)
    rw [e]
theorem F_start (l : List S58) (T : Nat) : F l 0 0 T = if T = 0 then 1 else 0 := by
  unfold F
  split
  · rfl
  · rw [sm_congr (g := fun _ => 0) _ (fun j hj => ?_), sm_zero]
    rw [decide_eq_false (by omega : ¬ (T ^^^ 2 ^ j < 0)), decide_eq_false (by omega : ¬ j < 0)]
    simp
theorem F_full (l : List S58) {d i T : Nat} (hT : T < 2 ^ l.length) (hd : T ≤ d) : F l d i T = cntG l T := by
  show F l d i T = cnt l (pc l.length T) T
  unfold F
  by_cases h0 : T = 0
  · rw [if_pos h0, h0, pc_nil]; rfl
  rw [if_neg h0]
  obtain ⟨j, hj, hb⟩ := pc_pos l.length h0 hT
  rw [pc_xor hb _ hj]
  show _ = sm l.length _
  refine sm_congr _ (fun i' hi' => ?_)
  cases hb' : T.testBit i' with
  | false => rfl
  | true =>
    have := xor_lt hb'
    rw [decide_eq_true (by omega : T ^^^ 2 ^ i' < d), Bool.true_or, Bool.and_true]
    have e : pc l.length (T ^^^ 2 ^ i') = pc l.length (T ^^^ 2 ^ j) := by
      have e1 := pc_xor hb _ hj
      have e2 := pc_xor hb' _ hi'
      omega
    show (if _ then cnt l (pc l.length (T ^^^ 2 ^ i')) (T ^^^ 2 ^ i') else 0) = _
    rw [e]
theorem F_skip {l : List S58} {d i : Nat} (h : okN l d i = false) (T : Nat) : F l d (i + 1) T = F l d i T := by
  unfold F
  split
  · rfl
  · refine sm_congr _ (fun j hj => ?_)
    by_cases e : j = i
    · subst e
      by_cases e2 : T ^^^ 2 ^ j = d
      · rw [e2, h]; simp
      · rw [decide_eq_false e2]; rfl
    · rw [decide_eq_decide.mpr (by omega : j < i + 1 ↔ j < i)]
theorem F_put {l : List S58} {d i : Nat} (h : okN l d i = true) (hi : i < l.length) (T : Nat) : F l d (i + 1) T = if T = d ||| 2 ^ i then F l d i T + cntG l d else F l d i T := by
  have hf := okN_free h
  by_cases hT : T = d ||| 2 ^ i
  · rw [if_pos hT]
    obtain ⟨h1, h2⟩ := (bit_iff hf).mpr hT
    have h0 : T ≠ 0 := by intro h0; rw [h0, Nat.zero_testBit] at h1; cases h1
    unfold F
    rw [if_neg h0, if_neg h0]
    have := sm_one (i := i) (f := fun j => if (T.testBit j && okN l (T ^^^ 2 ^ j) j && (decide (T ^^^ 2 ^ j < d) || (decide (T ^^^ 2 ^ j = d) && decide (j < i)))) = true then cntG l (T ^^^ 2 ^ j) else 0) (g := fun j => if (T.testBit j && okN l (T ^^^ 2 ^ j) j && (decide (T ^^^ 2 ^ j < d) || (decide (T ^^^ 2 ^ j = d) && decide (j < i + 1)))) = true then cntG l (T ^^^ 2 ^ j) else 0) l.length hi (fun j hj hne => by
      show (if _ then _ else _) = (if _ then _ else _)
      rw [decide_eq_decide.mpr (by omega : j < i + 1 ↔ j < i)])
    rw [h1, h2, h, decide_eq_false (by omega : ¬ d < d), decide_eq_true (by omega : i < i + 1), decide_eq_false (by omega : ¬ i < i), decide_eq_true rfl] at this
    simp only [Bool.and_true, Bool.and_false, Bool.or_true, Bool.or_false, Bool.false_eq_true, if_true, if_false, Nat.add_zero] at this
    exact this
  · rw [if_neg hT]
    unfold F
    split
    · rfl
    · refine sm_congr _ (fun j hj => ?_)
      by_cases e : j = i
      · subst e
        by_cases e2 : T ^^^ 2 ^ j = d
        · cases hb : T.testBit j with
          | false => rfl
          | true => exact absurd ((bit_iff hf).mp ⟨hb, e2⟩) hT
        · rw [decide_eq_false e2]; rfl
      · rw [decide_eq_decide.mpr (by omega : j < i + 1 ↔ j < i)]
/-- The table as a list. -/
def tab (l : List S58) (d i : Nat) : List Int := (List.range (2 ^ l.length)).map fun T => ((F l d i T : Nat) : Int)
theorem tab_len (l : List S58) (d i : Nat) : (tab l d i).length = 2 ^ l.length := by unfold tab; simp
theorem tab_rd {l : List S58} {d i T : Nat} (h : T < 2 ^ l.length) : rd (tab l d i) (T : Int) = ((F l d i T : Nat) : Int) := by unfold tab; rw [rd_map h]
theorem tab_congr {l : List S58} {d i d' i' : Nat} (h : ∀ T, F l d i T = F l d' i' T) : tab l d i = tab l d' i' := by unfold tab; simp only [h]
theorem or_lt {l : List S58} {d i : Nat} (hd : d < 2 ^ l.length) (hi : i < l.length) : d ||| 2 ^ i < 2 ^ l.length := Nat.or_lt_two_pow hd (Nat.pow_lt_pow_right (by decide) hi)
theorem set_range {f g : Nat → Int} {N t : Nat} {v : Int} (h : ∀ j, j < N → g j = if j = t then v else f j) : ((List.range N).map f).set t v = (List.range N).map g := by
  apply List.ext_getElem
  · simp
  · intro j h1 h2
    simp only [List.length_set, List.length_map, List.length_range] at h1
    rw [List.getElem_set]
    simp only [List.getElem_map, List.getElem_range]
    rw [h j h1]
    by_cases e : t = j
    · rw [if_pos e, if_pos e.symm]
    · rw [if_neg e, if_neg (fun h => e h.symm)]
theorem tab_put {l : List S58} {d i : Nat} (hl : l.length ≤ 10) (h : okN l d i = true) (hd : d < 2 ^ l.length) (hi : i < l.length) : (tab l d i).set (d ||| 2 ^ i) (wrap64 (rd (tab l d i) ((d ||| 2 ^ i : Nat) : Int) + ((cntG l d : Nat) : Int))) = tab l d (i + 1) := by
  rw [tab_rd (or_lt hd hi)]
  have h1 := F_le hl d i (d ||| 2 ^ i)
  have h2 := cntG_le hl d
  rw [w_small (by omega)]
  unfold tab
  refine set_range (fun j hj => ?_)
  rw [F_put h hi]
  by_cases e : j = d ||| 2 ^ i
  · rw [if_pos e, if_pos e, e]; omega
  · rw [if_neg e, if_neg e]
theorem tab_start (l : List S58) : (List.replicate (2 ^ l.length) (0 : Int)).set 0 1 = tab l 0 0 := by
  have e : List.replicate (2 ^ l.length) (0 : Int) = (List.range (2 ^ l.length)).map fun _ => (0 : Int) := by
    apply List.ext_getElem
    · simp
    · intro j h1 h2; simp
  rw [e]
  refine set_range (fun j hj => ?_)
  rw [F_start]
  split <;> rfl
theorem b_and {a b : Nat} (ha : a < 2 ^ 62) (hb : b < 2 ^ 62) : Go.bits .and .i64 (a : Int) (b : Int) = ((a &&& b : Nat) : Int) := by
  have h : a &&& b < 2 ^ 62 := Nat.and_lt_two_pow _ hb
  show IntKind.i64.wrap (((BitVec.ofInt 64 (a : Int) &&& BitVec.ofInt 64 (b : Int)).toNat : Nat) : Int) = _
  rw [BitVec.toNat_and, BitVec.ofInt_natCast, BitVec.ofInt_natCast, BitVec.toNat_ofNat, BitVec.toNat_ofNat, Nat.mod_eq_of_lt (by omega), Nat.mod_eq_of_lt (by omega), IntKind.wrap_i64]
  omega
theorem b_or {a b : Nat} (ha : a < 2 ^ 62) (hb : b < 2 ^ 62) : Go.bits .or .i64 (a : Int) (b : Int) = ((a ||| b : Nat) : Int) := by
  have h : a ||| b < 2 ^ 62 := Nat.or_lt_two_pow ha hb
  show IntKind.i64.wrap (((BitVec.ofInt 64 (a : Int) ||| BitVec.ofInt 64 (b : Int)).toNat : Nat) : Int) = _
  rw [BitVec.toNat_or, BitVec.ofInt_natCast, BitVec.ofInt_natCast, BitVec.toNat_ofNat, BitVec.toNat_ofNat, Nat.mod_eq_of_lt (by omega), Nat.mod_eq_of_lt (by omega), IntKind.wrap_i64]
  omega
theorem b_andNot {a b : Nat} (ha : a < 2 ^ 62) (hb : b < 2 ^ 62) : Go.bits .andNot .i64 (a : Int) (b : Int) = ((a &&& (2 ^ 64 - (b + 1)) : Nat) : Int) := by
  have h : a &&& (2 ^ 64 - (b + 1)) < 2 ^ 62 := Nat.lt_of_le_of_lt Nat.and_le_left ha
  show IntKind.i64.wrap (((BitVec.ofInt 64 (a : Int) &&& ~~~ BitVec.ofInt 64 (b : Int)).toNat : Nat) : Int) = _
  rw [BitVec.toNat_and, BitVec.toNat_not, BitVec.ofInt_natCast, BitVec.ofInt_natCast, BitVec.toNat_ofNat, BitVec.toNat_ofNat, Nat.mod_eq_of_lt (by omega), Nat.mod_eq_of_lt (by omega : b < 2 ^ 64), IntKind.wrap_i64, show 2 ^ 64 - 1 - b = 2 ^ 64 - (b + 1) by omega]
  omega
theorem andNot_zero {a b : Nat} (ha : a < 2 ^ 62) (hb : b < 2 ^ 62) : Go.bits .andNot .i64 (a : Int) (b : Int) = 0 ↔ ∀ i, a.testBit i = true → b.testBit i = true := by
  rw [b_andNot ha hb]
  constructor
  · intro h i hi
    have h0 : a &&& (2 ^ 64 - (b + 1)) = 0 := by omega
    have h1 : (a &&& (2 ^ 64 - (b + 1))).testBit i = false := by rw [h0, Nat.zero_testBit]
    rw [Nat.testBit_and, hi, Bool.true_and, Nat.testBit_two_pow_sub_succ (by omega)] at h1
    have hi64 : i < 64 := by
      by_cases h : i < 64
      · exact h
      · have := Nat.testBit_lt_two_pow (Nat.lt_of_lt_of_le ha (Nat.pow_le_pow_right (by decide) (by omega : 62 ≤ i)))
        rw [this] at hi; cases hi
    rw [decide_eq_true hi64, Bool.true_and] at h1
    simpa using h1
  · intro h
    have h0 : a &&& (2 ^ 64 - (b + 1)) = 0 := by
      apply Nat.eq_of_testBit_eq
      intro i
      rw [Nat.testBit_and, Nat.testBit_two_pow_sub_succ (by omega), Nat.zero_testBit]
      cases hi : a.testBit i with
      | false => rfl
      | true => rw [h i hi]; simp
    rw [h0]; rfl
theorem shl_n {i : Nat} (h : i ≤ 61) : shl .i64 1 (i : Int) = ((2 ^ i : Nat) : Int) := by
  have hp : (2 : Nat) ^ i < 2 ^ 62 := Nat.pow_lt_pow_right (by decide) (by omega)
  show IntKind.i64.wrap (1 * 2 ^ min (i : Int).toNat 64) = _
  rw [Int.toNat_natCast, Nat.min_eq_left (by omega), Int.one_mul, IntKind.wrap_i64, show ((2 : Int) ^ i) = ((2 ^ i : Nat) : Int) by rw [Int.natCast_pow]; rfl]
  generalize (2 : Nat) ^ i = P at *
  omega
theorem shr_n {d i : Nat} (h : i ≤ 61) : shr .i64 (d : Int) (i : Int) = ((d / 2 ^ i : Nat) : Int) := by
  show (d : Int) / 2 ^ min (i : Int).toNat 64 = _
  rw [Int.toNat_natCast, Nat.min_eq_left (by omega), Int.natCast_ediv, Int.natCast_pow]; rfl
theorem bit_n {d i : Nat} (hd : d < 2 ^ 62) (h : i ≤ 61) : Go.bits .and .i64 (shr .i64 (d : Int) (i : Int)) 1 = if d.testBit i then 1 else 0 := by
  have h1 : d / 2 ^ i < 2 ^ 62 := Nat.lt_of_le_of_lt (Nat.div_le_self _ _) hd
  rw [shr_n h, show (1 : Int) = ((1 : Nat) : Int) from rfl, b_and h1 (by decide), Nat.and_one_is_mod, Nat.testBit_eq_decide_div_mod_eq]
  by_cases e : d / 2 ^ i % 2 = 1
  · rw [decide_eq_true e, e]; rfl
  · rw [decide_eq_false e, show d / 2 ^ i % 2 = 0 by omega]; rfl
/-- The statements before the i-th one that the j-th one must follow, as bits. -/
def bmU (l : List S58) (j : Nat) : Nat → Nat
  | 0 => 0
  | i + 1 => if mst (rd_T58 l (i : Int)) (rd_T58 l (j : Int)) then bmU l j i ||| 2 ^ i else bmU l j i
theorem bmU_lt (l : List S58) (j : Nat) : ∀ i, bmU l j i < 2 ^ i
  | 0 => by unfold bmU; decide
  | i + 1 => by
    have h := bmU_lt l j i
    have h2 : (2 : Nat) ^ i < 2 ^ (i + 1) := Nat.pow_lt_pow_right (by decide) (by omega)
    unfold bmU
    split
    · exact Nat.or_lt_two_pow (by omega) h2
    · omega
theorem bmU_bit (l : List S58) (j t : Nat) : ∀ i, (bmU l j i).testBit t = (decide (t < i) && mst (rd_T58 l (t : Int)) (rd_T58 l (j : Int)))
  | 0 => by unfold bmU; rw [Nat.zero_testBit]; rfl
  | i + 1 => by
    have ih := bmU_bit l j t i
    unfold bmU
    by_cases e : t = i
    · subst e
      cases hm : mst (rd_T58 l (t : Int)) (rd_T58 l (j : Int)) with
      | true => rw [if_pos rfl, tb_or, decide_eq_true rfl, Bool.or_true, decide_eq_true (by omega)]; rfl
      | false => rw [if_neg (by decide), ih, hm]; simp
    · rw [decide_eq_decide.mpr (by omega : t < i + 1 ↔ t < i), ← ih]
      split
      · rw [tb_or, decide_eq_false (fun h => e h.symm), Bool.or_false]
      · rfl
def bms (l : List S58) (m : Nat) : List Int := (List.range m).map fun j => ((bmU l j j : Nat) : Int)
theorem bms_len (l : List S58) (m : Nat) : (bms l m).length = m := by unfold bms; simp
theorem ok_bm {l : List S58} {d i : Nat} (hd : d < 2 ^ 62) (hi : i ≤ 61) (hf : d.testBit i = false) : Go.bits .andNot .i64 ((bmU l i i : Nat) : Int) (d : Int) = 0 ↔ okN l d i = true := by
  have hb := bmU_lt l i i
  have hp : (2 : Nat) ^ i < 2 ^ 62 := Nat.pow_lt_pow_right (by decide) (by omega)
  rw [andNot_zero (by omega) hd]
  unfold okN
  rw [hf, Bool.not_false, Bool.true_and, List.all_eq_true]
  constructor
  · intro h j hj
    have hj := List.mem_range.mp hj
    cases hm : mst (rd_T58 l (j : Int)) (rd_T58 l (i : Int)) with
    | false => simp
    | true => rw [h j (by rw [bmU_bit, hm, decide_eq_true hj]; rfl)]; rfl
  · intro h j hj
    rw [bmU_bit, Bool.and_eq_true] at hj
    have := h j (List.mem_range.mpr (of_decide_eq_true hj.1))
    rw [hj.2] at this
    simpa using this
theorem rd_midI {A Z : List Int} {e : Int} {j : Nat} (h : A.length = j) : rd (A ++ e :: Z) (j : Int) = e := by
  rw [rd_nat, List.getD_eq_getElem?_getD, List.getElem?_append_right (by omega), h, Nat.sub_self]; rfl
theorem set_midI {A Z : List Int} {e u : Int} {j : Nat} (h : A.length = j) : (A ++ e :: Z).set j u = A ++ u :: Z := by
  rw [List.set_append_right _ _ (by omega), h, Nat.sub_self]; rfl
theorem iBefore_in (l : List S58) (hl : l.length ≤ 10) {j : Nat} (hj : j < l.length) {r : List Int} (he : Ev (fun k => impl_before.l0 k l (bms l (j + 1) ++ List.replicate (l.length - 1 - j) 0) (l.length : Int) ((j + 1 : Nat) : Int)) r) : ∀ d i : Nat, i + d = j → Ev (fun k => impl_before.l1 k l (bms l j ++ ((bmU l j i : Nat) : Int) :: List.replicate (l.length - 1 - j) 0) (j : Int) (l.length : Int) (j : Int) (j : Int) (i : Int)) r := by
  have hn := bms_len l j
  intro d
  induction d with
  | zero =>
    intro i hi
    obtain rfl : i = j := by omega
    refine Ev.step (fun k => ?_) he
    simp only [impl_before.l1]
    rw [if_neg (by omega), w1 (by omega)]
    unfold bms
    rw [← range_end (F := fun j => ((bmU l j j : Nat) : Int)), List.append_assoc]; rfl
  | succ d ih =>
    intro i hi
    have hn2 : (bms l j ++ ((bmU l j i : Nat) : Int) :: List.replicate (l.length - 1 - j) 0).length = l.length := by simp [hn]; omega
    have hb := bmU_lt l j i
    have hp : (2 : Nat) ^ i < 2 ^ 62 := Nat.pow_lt_pow_right (by decide) (by omega)
    have ih' := ih (i + 1) (by omega)
    unfold bmU at ih'
    cases hm : mst (rd_T58 l (i : Int)) (rd_T58 l (j : Int)) with
    | true =>
      rw [hm, if_pos rfl] at ih'
      refine Ev.step (fun k => ?_) ih'
      simp only [impl_before.l1]
      rw [if_pos (by omega), if_pos (by omega), if_pos (by omega), if_pos (by omega), if_pos (by omega), iFollows, Option.bind_some, hm, if_pos rfl, if_pos (by omega), Int.toNat_natCast, rd_midI hn, shl_n (by omega), b_or (by omega) hp, set_midI hn, w1 (by omega)]
    | false =>
      rw [hm, if_neg (by decide)] at ih'
      refine Ev.step (fun k => ?_) ih'
      simp only [impl_before.l1]
      rw [if_pos (by omega), if_pos (by omega), if_pos (by omega), if_pos (by omega), if_pos (by omega), iFollows, Option.bind_some, hm, if_neg (by decide), w1 (by omega)]
theorem iBefore (l : List S58) (hl : l.length ≤ 10) : Ev (fun k => impl_before.f k l) (bms l l.length) := by
  unfold impl_before.f
  refine ev_if (by omega) (ev_if (by omega) ?_)
  have key : ∀ d j : Nat, j + d = l.length → Ev (fun k => impl_before.l0 k l (bms l j ++ List.replicate (l.length - j) 0) (l.length : Int) (j : Int)) (bms l l.length) := by
    intro d
    induction d with
    | zero =>
      intro j hj
      obtain rfl : j = l.length := by omega
      refine ⟨1, fun k hk => ?_⟩
      obtain ⟨k, rfl⟩ : ∃ m, k = m + 1 := ⟨k - 1, by omega⟩
      simp only [impl_before.l0]
      rw [if_neg (by omega)]; simp
    | succ d ih =>
      intro j hj
      have hn := ih (j + 1) (by omega)
      rw [show l.length - (j + 1) = l.length - 1 - j by omega] at hn
      refine Ev.step (fun k => ?_) (iBefore_in l hl (by omega : j < l.length) hn j 0 (by omega))
      simp only [impl_before.l0]
      rw [if_pos (by omega)]
      have e : List.replicate (l.length - j) (0 : Int) = ((bmU l j 0 : Nat) : Int) :: List.replicate (l.length - 1 - j) 0 := by
        rw [show l.length - j = (l.length - 1 - j) + 1 by omega, List.replicate_succ]; rfl
      rw [e]; rfl
  have := key l.length 0 (by omega)
  simpa [bms] using this
theorem pow_le10 {n : Nat} (h : n ≤ 10) : 2 ^ n ≤ 1024 := Nat.pow_le_pow_right (by decide) h
theorem last_way (l : List S58) : rd (tab l (2 ^ l.length) 0) ((2 ^ l.length - 1 : Nat) : Int) = ((cntG l (2 ^ l.length - 1) : Nat) : Int) := by
  have hp : 0 < 2 ^ l.length := Nat.pow_pos (by decide)
  rw [tab_rd (by omega), F_full l (by omega) (by omega)]
theorem iCount (l : List S58) (hl : l.length ≤ 10) : Ev (fun k => impl_CountOrders.j0 k l false) (((cntG l (2 ^ l.length - 1) : Nat) : Int), true) := by
  have hN := pow_le10 hl
  have hp : 0 < 2 ^ l.length := Nat.pow_pos (by decide)
  have hlast := last_way l
  have key : ∀ D d : Nat, d + D = 2 ^ l.length → Ev (fun k => impl_CountOrders.l0 k (bms l l.length) (tab l d 0) ((2 ^ l.length : Nat) : Int) (d : Int)) (((cntG l (2 ^ l.length - 1) : Nat) : Int), true) := by
    intro D
    induction D with
    | zero =>
      intro d hd
      obtain rfl : d = 2 ^ l.length := by omega
      refine ⟨1, fun k hk => ?_⟩
      obtain ⟨k, rfl⟩ : ∃ m, k = m + 1 := ⟨k - 1, by omega⟩
      simp only [impl_CountOrders.l0]
      rw [tab_len]
      generalize hM : 2 ^ l.length = M at *
      rw [if_neg (by omega), w_small (by omega), if_pos (by omega), if_pos (by omega), show (M : Int) - 1 = ((M - 1 : Nat) : Int) by omega, hlast]
    | succ D ih =>
      intro d hd
      have hdN : d < 2 ^ l.length := by omega
      have hd62 : d < 2 ^ 62 := by omega
      have hn := ih (d + 1) (by omega)
      have inner : ∀ e i : Nat, i + e = l.length → Ev (fun k => impl_CountOrders.l1 k (bms l l.length) (tab l d i) (d : Int) ((cntG l d : Nat) : Int) ((2 ^ l.length : Nat) : Int) (d : Int) (bms l l.length) (l.length : Int) (i : Int)) (((cntG l (2 ^ l.length - 1) : Nat) : Int), true) := by
        intro e
        induction e with
        | zero =>
          intro i hi
          obtain rfl : i = l.length := by omega
          refine Ev.step (fun k => ?_) hn
          simp only [impl_CountOrders.l1]
          rw [if_neg (by omega), w1 (by omega), tab_congr (F_next l d)]
        | succ e ihe =>
          intro i hi
          have hi' : i < l.length := by omega
          have ih' := ihe (i + 1) (by omega)
          have hor := or_lt hdN hi'
          have hp2 : (2 : Nat) ^ i < 2 ^ 62 := Nat.pow_lt_pow_right (by decide) (by omega)
          have hrd : rd (bms l l.length) (i : Int) = ((bmU l i i : Nat) : Int) := by unfold bms; rw [rd_map hi']
          refine Ev.step (fun k => ?_) ih'
          simp only [impl_CountOrders.l1]
          rw [if_pos (by omega), if_pos (by omega), bms_len, if_pos (by omega), bit_n hd62 (by omega), hrd, w1 (by omega)]
          cases hb : d.testBit i with
          | true =>
            rw [if_neg (by decide), tab_congr (F_skip (by unfold okN; rw [hb]; rfl))]
          | false =>
            rw [if_pos (by decide)]
            cases ho : okN l d i with
            | false =>
              rw [if_neg (fun h => by rw [(ok_bm hd62 (by omega) hb).mp h] at ho; cases ho), tab_congr (F_skip ho)]
            | true =>
              rw [if_pos ((ok_bm hd62 (by omega) hb).mpr ho), shl_n (by omega), b_or hd62 hp2, if_pos (by omega), tab_len, if_pos (by omega), Int.toNat_natCast, tab_put hl ho hdN hi']
      refine Ev.step (fun k => ?_) (inner l.length 0 (by omega))
      simp only [impl_CountOrders.l0]
      rw [if_pos (by omega), if_pos (by omega), tab_len, if_pos (by omega), tab_rd hdN, F_full l hdN (Nat.le_refl _), bms_len]
      rfl
  refine Ev.step (fun k => by rw [impl_CountOrders.j0, if_neg (by decide)]) ?_
  refine Ev.bind (iBefore l hl) ?_
  have e1 : shl .i64 1 (l.length : Int) = ((2 ^ l.length : Nat) : Int) := shl_n (by omega)
  simp only [e1, Int.toNat_natCast]
  refine ev_if (by omega) (ev_if (by omega) (ev_some ?_))
  simp only [List.length_replicate]
  refine ev_if (by omega) ?_
  have := key (2 ^ l.length) 0 (by omega)
  rw [← tab_start] at this
  exact this
theorem sm_two (p : Nat) (f : Nat → Nat) : ∀ q : Nat, sm (p + q) f = sm p f + sm q fun k => f (p + k)
  | 0 => by show sm p f = sm p f + 0; rfl
  | q + 1 => by
    show sm (p + q) f + f (p + q) = sm p f + (sm q (fun k => f (p + k)) + f (p + q))
    rw [sm_two p f q]; omega
theorem sm_mul (a : Nat) (f : Nat → Nat) : ∀ n : Nat, sm (a * n) f = sm n fun j => sm a fun k => f (a * j + k)
  | 0 => rfl
  | n + 1 => by
    rw [Nat.mul_succ, sm_two, sm_mul a f n]; rfl
/-- The i-th digit of k. -/
def dg (n k i : Nat) : Nat := k / n ^ i % n
theorem dg_lt {n : Nat} (h : 0 < n) (k i : Nat) : dg n k i < n := Nat.mod_lt _ h
theorem dg_low {n m : Nat} (hn : 0 < n) (k j : Nat) {i : Nat} (hi : i < m) : dg n (n ^ m * j + k) i = dg n k i := by
  unfold dg
  obtain ⟨q, rfl⟩ : ∃ q, m = i + (q + 1) := ⟨m - i - 1, by omega⟩
  have e : n ^ (i + (q + 1)) * j + k = k + n ^ i * (n * (n ^ q * j)) := by
    rw [Nat.pow_add, Nat.pow_succ]
    rw [Nat.add_comm, Nat.mul_comm (n ^ q) n]
    simp only [Nat.mul_assoc]
  rw [e, Nat.add_mul_div_left _ _ (Nat.pow_pos hn), Nat.add_mul_mod_self_left]
theorem dg_top {n m k j : Nat} (hk : k < n ^ m) (hj : j < n) : dg n (n ^ m * j + k) m = j := by
  unfold dg
  rw [Nat.mul_add_div (by omega), Nat.div_eq_of_lt hk, Nat.add_zero, Nat.mod_eq_of_lt hj]
/-- Whether the first m digits are a way to the set T. -/
def val (l : List S58) (D : Nat → Nat) : Nat → Nat → Bool
  | 0, T => decide (T = 0)
  | m + 1, T => (T.testBit (D m) && okN l (T ^^^ 2 ^ (D m)) (D m)) && val l D m (T ^^^ 2 ^ (D m))
theorem val_succ (l : List S58) (D : Nat → Nat) (m T : Nat) : val l D (m + 1) T = ((T.testBit (D m) && okN l (T ^^^ 2 ^ (D m)) (D m)) && val l D m (T ^^^ 2 ^ (D m))) := rfl
theorem val_congr {l : List S58} {D D' : Nat → Nat} : ∀ (m T : Nat), (∀ i, i < m → D i = D' i) → val l D m T = val l D' m T
  | 0, _, _ => rfl
  | m + 1, T, h => by
    rw [val_succ, val_succ, h m (by omega), val_congr m _ (fun i hi => h i (by omega))]
theorem sm_count (l : List S58) : ∀ m T : Nat, sm (l.length ^ m) (fun k => if val l (dg l.length k) m T = true then 1 else 0) = cnt l m T
  | 0, T => by
    show 0 + (if decide (T = 0) = true then 1 else 0) = cnt l 0 T
    unfold cnt
    by_cases h : T = 0
    · rw [if_pos h, decide_eq_true h]; rfl
    · rw [if_neg h, decide_eq_false h]; rfl
  | m + 1, T => by
    rw [Nat.pow_succ, sm_mul]
    show _ = sm l.length _
    refine sm_congr _ (fun j hj => ?_)
    have hn : 0 < l.length := by omega
    rw [sm_congr (g := fun k => if ((T.testBit j && okN l (T ^^^ 2 ^ j) j) && val l (dg l.length k) m (T ^^^ 2 ^ j)) = true then 1 else 0) _ (fun k hk => ?_)]
    · cases hc : (T.testBit j && okN l (T ^^^ 2 ^ j) j) with
      | true =>
        rw [if_pos rfl, ← sm_count l m (T ^^^ 2 ^ j)]
        simp only [Bool.true_and]
      | false =>
        rw [if_neg (by decide)]
        simp only [Bool.false_and]
        exact sm_zero _
    · show (if val l (dg l.length (l.length ^ m * j + k)) (m + 1) T = true then 1 else 0) = _
      rw [val_succ, dg_top hk hj, val_congr m (T ^^^ 2 ^ j) (fun i hi => dg_low hn k j hi)]
/-- The set of the first m digits. -/
def st (D : Nat → Nat) : Nat → Nat
  | 0 => 0
  | m + 1 => st D m ||| 2 ^ (D m)
theorem st_bit (D : Nat → Nat) (t : Nat) : ∀ m, (st D m).testBit t = true ↔ ∃ j, j < m ∧ D j = t
  | 0 => by
    show (0 : Nat).testBit t = true ↔ _
    rw [Nat.zero_testBit]
    exact ⟨fun h => (by cases h), fun ⟨j, hj, _⟩ => (by omega)⟩
  | m + 1 => by
    show (st D m ||| 2 ^ (D m)).testBit t = true ↔ _
    rw [tb_or, Bool.or_eq_true, st_bit D t m, decide_eq_true_iff]
    constructor
    · rintro (⟨j, hj, e⟩ | e)
      · exact ⟨j, by omega, e⟩
      · exact ⟨m, by omega, e⟩
    · rintro ⟨j, hj, e⟩
      by_cases h : j < m
      · exact Or.inl ⟨j, h, e⟩
      · obtain rfl : j = m := by omega
        exact Or.inr e
theorem val_iff {l : List S58} {D : Nat → Nat} : ∀ m T : Nat, val l D m T = true ↔ T = st D m ∧ ∀ i, i < m → okN l (st D i) (D i) = true
  | 0, T => by
    show decide (T = 0) = true ↔ T = 0 ∧ _
    rw [decide_eq_true_iff]
    exact ⟨fun h => ⟨h, fun i hi => (by omega)⟩, fun h => h.1⟩
  | m + 1, T => by
    show ((T.testBit (D m) && okN l (T ^^^ 2 ^ (D m)) (D m)) && val l D m (T ^^^ 2 ^ (D m))) = true ↔ T = st D m ||| 2 ^ (D m) ∧ _
    rw [Bool.and_eq_true, Bool.and_eq_true, val_iff m]
    constructor
    · rintro ⟨⟨h1, h2⟩, h3, h4⟩
      rw [h3] at h2
      refine ⟨(bit_iff (okN_free h2)).mp ⟨h1, h3⟩, fun i hi => ?_⟩
      by_cases h : i < m
      · exact h4 i h
      · obtain rfl : i = m := by omega
        exact h2
    · rintro ⟨h1, h2⟩
      have h3 := h2 m (by omega)
      obtain ⟨h4, h5⟩ := (bit_iff (okN_free h3)).mpr h1
      exact ⟨⟨h4, by rw [h5]; exact h3⟩, h5, fun i hi => h2 i (by omega)⟩
theorem pc_all {T : Nat} : ∀ n : Nat, (∀ j, j < n → T.testBit j = true) → pc n T = n
  | 0, _ => rfl
  | n + 1, h => by
    unfold pc
    rw [pc_all n (fun j hj => h j (by omega)), h n (by omega)]; rfl
theorem pc_full {T : Nat} : ∀ n : Nat, pc n T = n → ∀ j, j < n → T.testBit j = true
  | 0, _, j, hj => by omega
  | n + 1, h, j, hj => by
    unfold pc at h
    have h1 := pc_le T n
    cases hb : T.testBit n with
    | false => rw [hb, if_neg (by decide)] at h; omega
    | true =>
      rw [hb, if_pos rfl] at h
      by_cases e : j < n
      · exact pc_full n (by omega) j e
      · obtain rfl : j = n := by omega
        exact hb
theorem full_bit (n j : Nat) : (2 ^ n - 1).testBit j = decide (j < n) := Nat.testBit_two_pow_sub_one n j
theorem full_pc (n : Nat) : pc n (2 ^ n - 1) = n := pc_all n fun j hj => by rw [full_bit, decide_eq_true hj]
theorem st_lt {D : Nat → Nat} {n : Nat} (h : ∀ i, D i < n) : ∀ m, st D m < 2 ^ n
  | 0 => Nat.pow_pos (by decide)
  | m + 1 => Nat.or_lt_two_pow (st_lt h m) (Nat.pow_lt_pow_right (by decide) (h m))
theorem st_pc {l : List S58} {D : Nat → Nat} {n : Nat} (h : ∀ i, D i < n) : ∀ m, (∀ i, i < m → okN l (st D i) (D i) = true) → pc n (st D m) = m
  | 0, _ => pc_nil n
  | m + 1, hk => by
    have h1 := hk m (by omega)
    obtain ⟨h2, h3⟩ := (bit_iff (T := st D (m + 1)) (okN_free h1)).mpr rfl
    rw [pc_xor h2 n (h m), h3, st_pc h m (fun i hi => hk i (by omega))]
theorem st_full {l : List S58} {D : Nat → Nat} {n : Nat} (h : ∀ i, D i < n) (hk : ∀ i, i < n → okN l (st D i) (D i) = true) : 2 ^ n - 1 = st D n := by
  have h1 := pc_full n (st_pc h n hk)
  apply Nat.eq_of_testBit_eq
  intro j
  rw [full_bit]
  by_cases e : j < n
  · rw [h1 j e, decide_eq_true e]
  · rw [decide_eq_false e, Nat.testBit_lt_two_pow (Nat.lt_of_lt_of_le (st_lt h n) (Nat.pow_le_pow_right (by decide) (by omega)))]
/-- The first m digits as a list. -/
def digs (n k m : Nat) : List Int := (List.range m).map fun i => ((dg n k i : Nat) : Int)
theorem digs_len (n k m : Nat) : (digs n k m).length = m := by unfold digs; simp
theorem digs_rd {n k m i : Nat} (h : i < m) : rd (digs n k m) (i : Int) = ((dg n k i : Nat) : Int) := by unfold digs; rw [rd_map h]
theorem okAt_okN {l : List S58} {k x : Nat} (hx : x < l.length) : okAt l (digs l.length k l.length) x = true ↔ okN l (st (dg l.length k) x) (dg l.length k x) = true := by
  have hlt := dg_lt (by omega : 0 < l.length) k x
  rw [okAt_iff (by rw [digs_len]; omega), digs_rd hx]
  have hr : ∀ j, j < x → rd (digs l.length k l.length) (j : Int) = ((dg l.length k j : Nat) : Int) := fun j hj => digs_rd (by omega)
  unfold okN
  rw [Bool.and_eq_true, List.all_eq_true, Int.toNat_natCast]
  constructor
  · rintro ⟨_, h2, h3⟩
    refine ⟨?_, fun t ht => ?_⟩
    · cases hb : (st (dg l.length k) x).testBit (dg l.length k x) with
      | false => rfl
      | true =>
        obtain ⟨j, hj, e⟩ := (st_bit _ _ _).mp hb
        have := h2 j hj
        rw [hr j hj, e] at this
        exact absurd rfl this
    · have ht := List.mem_range.mp ht
      cases hm : mst (rd_T58 l (t : Int)) (rd_T58 l ((dg l.length k x : Nat) : Int)) with
      | false => simp
      | true =>
        obtain ⟨j, hj, e⟩ := h3 t ht hm
        rw [hr j hj] at e
        rw [(st_bit _ _ _).mpr ⟨j, hj, by omega⟩]; rfl
  · rintro ⟨h1, h2⟩
    refine ⟨⟨by omega, by omega⟩, fun j hj e => ?_, fun t ht hm => ?_⟩
    · rw [hr j hj] at e
      rw [(st_bit _ _ _).mpr ⟨j, hj, by omega⟩] at h1
      cases h1
    · have := h2 t (List.mem_range.mpr ht)
      rw [hm, Bool.not_true, Bool.or_false] at this
      obtain ⟨j, hj, e⟩ := (st_bit _ _ _).mp this
      exact ⟨j, hj, by rw [hr j hj, e]⟩
theorem ord_val (l : List S58) (k : Nat) : ordB l (digs l.length k l.length) = val l (dg l.length k) l.length (2 ^ l.length - 1) := by
  rw [Bool.eq_iff_iff, ordB_iff, val_iff, digs_len]
  constructor
  · rintro ⟨_, h⟩
    have h' : ∀ i, i < l.length → okN l (st (dg l.length k) i) (dg l.length k i) = true := fun i hi => (okAt_okN hi).mp (h i hi)
    refine ⟨?_, h'⟩
    by_cases h0 : 0 < l.length
    · exact st_full (fun i => dg_lt h0 k i) h'
    · rw [show l.length = 0 by omega]; rfl
  · rintro ⟨_, h⟩
    exact ⟨rfl, fun i hi => (okAt_okN hi).mpr (h i hi)⟩
/-- As many lists of all indices are orders as are counted. -/
theorem counted (l : List S58) : sm (l.length ^ l.length) (fun k => if ordB l (digs l.length k l.length) = true then 1 else 0) = cntG l (2 ^ l.length - 1) := by
  unfold cntG
  rw [full_pc, ← sm_count]
  exact sm_congr _ fun k _ => by rw [ord_val]
theorem cnt_pos (l : List S58) : ∀ m, m ≤ l.length → 1 ≤ cnt l m (2 ^ m - 1)
  | 0, _ => Nat.le_refl _
  | m + 1, h => by
    have ih := cnt_pos l m (by omega)
    have hb : (2 ^ (m + 1) - 1).testBit m = true := by rw [full_bit, decide_eq_true (by omega)]
    have hx : (2 ^ (m + 1) - 1) ^^^ 2 ^ m = 2 ^ m - 1 := by
      apply Nat.eq_of_testBit_eq
      intro j
      rw [tb_xor, full_bit, full_bit]
      by_cases e : m = j
      · subst e; rw [decide_eq_true (by omega), decide_eq_true rfl, decide_eq_false (by omega)]; rfl
      · rw [decide_eq_false e, Bool.xor_false]; exact decide_eq_decide.mpr (by omega)
    have ho : okN l (2 ^ m - 1) m = true := by
      unfold okN
      rw [full_bit, decide_eq_false (by omega), Bool.not_false, Bool.true_and, List.all_eq_true]
      intro j hj
      rw [full_bit, decide_eq_true (List.mem_range.mp hj)]; rfl
    have := sm_ge (f := fun j => if ((2 ^ (m + 1) - 1).testBit j && okN l ((2 ^ (m + 1) - 1) ^^^ 2 ^ j) j) = true then cnt l m ((2 ^ (m + 1) - 1) ^^^ 2 ^ j) else 0) (i := m) l.length (by omega)
    simp only [hb, hx, ho, Bool.and_true, if_true] at this
    show 1 ≤ sm l.length _
    omega
theorem cntG_pos (l : List S58) : 1 ≤ cntG l (2 ^ l.length - 1) := by
  unfold cntG
  rw [full_pc]
  exact cnt_pos l _ (Nat.le_refl _)
def Bytes (l : List Int) : Prop := ∀ x ∈ l, 0 ≤ x ∧ x ≤ 255
theorem bytes_of {l : List Int} (h : ∀ x ∈ l, (Lit.int .u8 x).wf = true) : Bytes l := fun x hx => bounds_u8 (h x hx)
theorem and255 (n : Int) : 0 ≤ Go.bits .and .u64 n 255 ∧ Go.bits .and .u64 n 255 ≤ 255 := by
  have key := mask 8 (by decide) n
  have e : Go.bits .and .u64 n 255 = IntKind.u64.wrap (((BitVec.ofInt 64 n &&& BitVec.ofInt 64 (2 ^ 8 - 1)).toNat : Nat) : Int) := rfl
  rw [e, key, u_small (by omega)]
  omega
theorem next_ok {s : List Int} (hs : Bytes s) (p st : Int) (hp : 0 ≤ p ∧ p ≤ 1000000000) : ∃ v st' : Int, spec_l00Src_next.f s p st = some (v, p + 1, st') ∧ 0 ≤ v ∧ v ≤ 255 := by
  have hw : wrap64 (p + 1) = p + 1 := w_small (by omega)
  unfold spec_l00Src_next.f
  by_cases h1 : p < (s.length : Int)
  · have hv := hs _ (rd_mem hp.1 h1)
    rw [if_pos h1, if_pos hp.1, hw]
    by_cases h2 : p + 1 ≤ (s.length : Int)
    · rw [if_pos h2]
      exact ⟨_, _, rfl, by rw [w_small (by omega)]; exact hv⟩
    · exact absurd h1 (by omega)
  · rw [if_neg h1, hw]
    by_cases h2 : p + 1 ≤ (s.length : Int)
    · exact absurd h2 (by omega)
    · rw [if_neg h2]
      refine ⟨_, _, rfl, ?_⟩
      have := and255 ((IntKind.u64.wrap ((IntKind.u64.wrap ((IntKind.u64.wrap (st * 6364136223846793005)) + 0)) + 1442695040888963407)) / 1099511627776)
      rw [w_small (by omega)]
      exact this
theorem pick_ok {s : List Int} (hs : Bytes s) (p st n : Int) (hp : 0 ≤ p ∧ p ≤ 1000000) (hn : 1 ≤ n) : ∃ v p' st' : Int, spec_l00Src_pick.f s p st n = some (v, p', st') ∧ (0 ≤ v ∧ v < n) ∧ p ≤ p' ∧ p' ≤ p + 2 := by
  unfold spec_l00Src_pick.f
  by_cases h1 : n ≤ 1
  · rw [if_pos h1]
    exact ⟨_, _, _, rfl, by omega, by omega⟩
  · rw [if_neg h1]
    obtain ⟨v, st1, e1, hv⟩ := next_ok hs p st (by omega)
    rw [e1]
    show ∃ v' p' st', (if n > 200 then ((spec_l00Src_next.f s (p + 1) st1).bind fun bt136 => (if n = 0 then (none) else (some (Int.tmod (wrap64 ((wrap64 (v * 256)) + bt136.1)) n, bt136.2.1, bt136.2.2)))) else (if n = 0 then (none) else (some (Int.tmod v n, p + 1, st1)))) = some (v', p', st') ∧ _
    by_cases h2 : n > 200
    · rw [if_pos h2]
      obtain ⟨v2, st2, e2, hv2⟩ := next_ok hs (p + 1) st1 (by omega)
      rw [e2]
      have hx : wrap64 ((wrap64 (v * 256)) + v2) = v * 256 + v2 := by rw [w_small (n := v * 256) (by omega), w_small (by omega)]
      refine ⟨Int.tmod (wrap64 ((wrap64 (v * 256)) + v2)) n, p + 1 + 1, st2, ?_, ?_, by omega⟩
      · show (if n = 0 then none else _) = _
        rw [if_neg (by omega)]
      · rw [hx]
        exact ⟨Int.tmod_nonneg _ (by omega), Int.tmod_lt_of_pos _ (by omega)⟩
    · rw [if_neg h2, if_neg (by omega)]
      exact ⟨_, _, _, rfl, ⟨Int.tmod_nonneg _ (by omega), Int.tmod_lt_of_pos _ (by omega)⟩, by omega⟩
theorem one_ok {s : List Int} (hs : Bytes s) (p st n : Int) (hp : 0 ≤ p ∧ p ≤ 1000000) (hn : 1 ≤ n) : ∃ (b : Bool) (p' st' : Int), spec_l00Src_one.f s p st n = some (b, p', st') ∧ p ≤ p' ∧ p' ≤ p + 2 := by
  obtain ⟨v, p', st', e, hv, hp'⟩ := pick_ok hs p st n hp hn
  unfold spec_l00Src_one.f
  rw [e]
  exact ⟨_, _, _, rfl, hp'⟩
theorem sized_ok {s : List Int} (hs : Bytes s) (few : Int) (hf : 1 ≤ few) : ∀ (n : Nat) (acc : List S58) (p st : Int), acc.length + n ≤ 1000 → 0 ≤ p ∧ p + 8 * (n : Int) ≤ 800000 → ∃ (l : List S58) (p' st' : Int), Ev (fun k => spec_l03DrawSized.l0 k (n : Int) few acc s p st) (acc ++ l, p', st') ∧ l.length = n ∧ ∀ x ∈ l, OpOk x.f0 ∧ (0 ≤ x.f1 ∧ x.f1 < few) ∧ (0 ≤ x.f2 ∧ x.f2 < few) ∧ (0 ≤ x.f3 ∧ x.f3 < few) := by
  intro n
  induction n with
  | zero =>
    intro acc p st _ _
    refine ⟨[], p, st, ⟨1, fun k hk => ?_⟩, rfl, fun x hx => absurd hx (by simp)⟩
    obtain ⟨k, rfl⟩ : ∃ m, k = m + 1 := ⟨k - 1, by omega⟩
    simp only [spec_l03DrawSized.l0]
    rw [if_neg (by omega), List.append_nil]
  | succ n ih =>
    intro acc p st ha hp
    obtain ⟨v0, p0, s0, e0, h0, q0⟩ := pick_ok hs p st 18 (by omega) (by omega)
    obtain ⟨v1, p1, s1, e1, h1, q1⟩ := pick_ok hs p0 s0 few (by omega) hf
    obtain ⟨v2, p2, s2, e2, h2, q2⟩ := pick_ok hs p1 s1 few (by omega) hf
    obtain ⟨v3, p3, s3, e3, h3, q3⟩ := pick_ok hs p2 s2 few (by omega) hf
    obtain ⟨l, p', st', hE, hl, hx⟩ := ih (acc ++ [⟨v0, v1, v2, v3⟩]) p3 s3 (by simp; omega) (by omega)
    refine ⟨⟨v0, v1, v2, v3⟩ :: l, p', st', Ev.step (fun k => ?_) (by simpa using hE), by simp [hl], fun x hm => ?_⟩
    · simp only [spec_l03DrawSized.l0]
      have hw : wrap64 (((n + 1 : Nat) : Int) - 1) = (n : Int) := by rw [w_small (by omega)]; omega
      rw [if_pos (by omega), e0, Option.bind_some, e1, Option.bind_some, e2, Option.bind_some, e3, Option.bind_some, if_pos (by omega), hw]
    · rcases List.mem_cons.mp hm with h | h
      · rw [h]
        exact ⟨⟨h0.1, by show v0 ≤ 17; omega⟩, h1, h2, h3⟩
      · exact hx x h
theorem cOk_of {l : List S58} (hl : l.length ≤ 16) (h : ∀ x ∈ l, OpOk x.f0 ∧ (0 ≤ x.f1 ∧ x.f1 ≤ 31) ∧ (0 ≤ x.f2 ∧ x.f2 ≤ 31) ∧ (0 ≤ x.f3 ∧ x.f3 ≤ 31)) : cOk l = true := by
  unfold cOk
  rw [Bool.and_eq_true, List.all_eq_true]
  refine ⟨decide_eq_true hl, fun j hj => ?_⟩
  have hj := List.mem_range.mp hj
  have hm : rd_T58 l (j : Int) ∈ l := by
    rw [rd58, List.getD_eq_getElem?_getD, List.getElem?_eq_getElem hj]
    exact List.getElem_mem hj
  obtain ⟨h0, h1, h2, h3⟩ := h _ hm
  unfold stOk
  rw [decide_eq_true h0, cellB_is.mpr h1, cellB_is.mpr h2, cellB_is.mpr h3]
  rfl
theorem drawCode {s : List Int} (hs : Bytes s) : ∃ l : List S58, Ev (fun k => spec_B10Code.f k s) l ∧ cOk l = true := by
  obtain ⟨n, p0, s0, e0, h0, q0⟩ := pick_ok hs 0 0 8 (by omega) (by omega)
  obtain ⟨b, p1, s1, e1, q1⟩ := one_ok hs p0 s0 16 (by omega) (by omega)
  obtain ⟨f, p2, s2, e2, h2, q2⟩ := pick_ok hs p1 s1 12 (by omega) (by omega)
  have hw : wrap64 (3 + f) = 3 + f := w_small (by omega)
  have fin : ∀ c : Nat, c ≤ 16 → ∃ (l : List S58) (p' st' : Int), Ev (fun k => spec_l03DrawSized.f k s p2 s2 (c : Int) (wrap64 (3 + f))) (l, p', st') ∧ cOk l = true := by
    intro c hc
    rw [hw]
    obtain ⟨l, p', st', hE, hl, hx⟩ := sized_ok hs (3 + f) (by omega) c [] p2 s2 (by simp; omega) (by omega)
    refine ⟨l, p', st', hE, cOk_of (by omega) (fun x hm => ?_)⟩
    obtain ⟨a0, a1, a2, a3⟩ := hx x hm
    exact ⟨a0, by omega, by omega, by omega⟩
  have hD : ∃ (l : List S58) (p' st' : Int), Ev (fun k => spec_l03DrawOk.f k s 0 0) (l, p', st') ∧ cOk l = true := by
    unfold spec_l03DrawOk.f
    cases b with
    | true =>
      obtain ⟨l, p', st', hE, hc⟩ := fin 16 (by omega)
      exact ⟨l, p', st', ev_eq e0 (ev_eq e1 (ev_if rfl (ev_eq e2 (Ev.bind hE (Ev.now _))))), hc⟩
    | false =>
      obtain ⟨l, p', st', hE, hc⟩ := fin n.toNat (by omega)
      rw [show ((n.toNat : Nat) : Int) = n by omega] at hE
      exact ⟨l, p', st', ev_eq e0 (ev_eq e1 (ev_else (show ¬ (false = true) by decide) (ev_eq e2 (Ev.bind hE (Ev.now _))))), hc⟩
  obtain ⟨l, p', st', hE, hc⟩ := hD
  refine ⟨l, ?_, hc⟩
  unfold spec_B10Code.f spec_l00From.f
  exact ev_some (Ev.bind hE (Ev.now _))

end Go.Proofs.Yteknfebehafbdaa.V
