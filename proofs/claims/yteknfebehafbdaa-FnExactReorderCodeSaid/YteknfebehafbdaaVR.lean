/- Whether a list is an order: both sides come to one test. No condition but small lengths. -/
import Derived.Test.YteknfebehafbdaaVO
import Derived.Test.YteknfebehafbdaaVN
import Derived.Test.YteknfebehafbdaaVQ
import Derived.Test.YteknfebehafbdaaK0
import Derived.Test.YteknfebehafbdaaK25
import Derived.Test.YteknfebehafbdaaK26
import Derived.Test.YteknfebehafbdaaK27
namespace Go.Proofs.Yteknfebehafbdaa.V
open Go.RowKit Go.Proofs.Yteknfebehafbdaa.K Go.Proofs.Yteknfebehafbdaa.Bx Go.Proofs.YteknfebehafbdaaW.PrintWords Go.Proofs.YteknfebehafbdaaW.PrintLast
set_option linter.unusedVariables false
set_option linter.unusedSimpArgs false

/-- The first place of a number in a list. -/
def Fst (o : List Int) (n : Int) (k : Nat) : Prop := k < o.length ∧ rd o (k : Int) = n ∧ ∀ j, j < k → rd o (j : Int) ≠ n
theorem iIndex (o : List Int) (n : Int) (ho : o.length ≤ 1048576) : ∃ r, Ev (fun k => slices_Index_int64_int64.f k o n) r ∧ ((∃ k : Nat, Fst o n k ∧ r = (k : Int)) ∨ (r = -1 ∧ ∀ j, j < o.length → rd o (j : Int) ≠ n)) := by
  unfold slices_Index_int64_int64.f
  have key : ∀ d i : Nat, i + d = o.length → (∀ j, j < i → rd o (j : Int) ≠ n) → ∃ r, Ev (fun k => slices_Index_int64_int64.l0 k o n (o.length : Int) (i : Int)) r ∧ ((∃ k : Nat, Fst o n k ∧ r = (k : Int)) ∨ (r = -1 ∧ ∀ j, j < o.length → rd o (j : Int) ≠ n)) := by
    intro d
    induction d with
    | zero =>
      intro i hi hn
      refine ⟨-1, ⟨1, fun k hk => ?_⟩, .inr ⟨rfl, fun j hj => hn j (by omega)⟩⟩
      obtain ⟨k, rfl⟩ : ∃ m, k = m + 1 := ⟨k - 1, by omega⟩
      simp only [slices_Index_int64_int64.l0]
      rw [if_neg (by omega)]
    | succ d ih =>
      intro i hi hn
      by_cases h : n = rd o (i : Int)
      · refine ⟨(i : Int), ⟨1, fun k hk => ?_⟩, .inl ⟨i, ⟨by omega, h.symm, hn⟩, rfl⟩⟩
        obtain ⟨k, rfl⟩ : ∃ m, k = m + 1 := ⟨k - 1, by omega⟩
        simp only [slices_Index_int64_int64.l0]
        rw [if_pos (by omega), if_pos (by omega), if_pos (by omega), if_pos h]
      · obtain ⟨r, hr, hp⟩ := ih (i + 1) (by omega) (fun j hj => by
          rcases Nat.lt_succ_iff_lt_or_eq.mp hj with h1 | h1
          · exact hn j h1
          · rw [h1]; exact fun e => h e.symm)
        refine ⟨r, Ev.step (fun k => ?_) hr, hp⟩
        simp only [slices_Index_int64_int64.l0]
        rw [if_pos (by omega), if_pos (by omega), if_pos (by omega), if_neg h, w1 (by omega)]
  exact key o.length 0 (by omega) (fun j hj => absurd hj (Nat.not_lt_zero _))
theorem rd_set_same {t : List Int} {i : Nat} {v : Int} (h : i < t.length) : rd (t.set i v) (i : Int) = v := by
  rw [rd_nat, List.getD_eq_getElem?_getD, List.getElem?_set_self h]; rfl
theorem rd_set_other {t : List Int} {i j : Nat} {v : Int} (h : j ≠ i) : rd (t.set i v) (j : Int) = rd t (j : Int) := by
  rw [rd_nat, rd_nat, List.getD_eq_getElem?_getD, List.getD_eq_getElem?_getD, List.getElem?_set_ne (by omega)]
def PlacesOk (o at_ : List Int) (n : Nat) : Prop := o.length = n ∧ at_.length = n ∧ ∀ i : Nat, i < n → ∃ k : Nat, Fst o (i : Int) k ∧ rd at_ (i : Int) = (k : Int)
theorem iPlaces (o : List Int) (n : Nat) (ho : o.length ≤ 1048576) : ∃ (at_ : List Int) (two : Bool), Ev (fun k => impl_places.f k o (n : Int)) (at_, two) ∧ ((two = true ∧ PlacesOk o at_ n) ∨ (two = false ∧ (o.length ≠ n ∨ ∃ i : Nat, i < n ∧ ∀ j, j < o.length → rd o (j : Int) ≠ (i : Int)))) := by
  unfold impl_places.f
  by_cases hl : o.length = n
  rotate_left
  · exact ⟨[], false, ev_else (by omega) (Ev.now _), .inr ⟨rfl, .inl hl⟩⟩
  have key : ∀ d i : Nat, i + d = n → ∀ t : List Int, t.length = n → (∀ j : Nat, j < i → ∃ k : Nat, Fst o (j : Int) k ∧ rd t (j : Int) = (k : Int)) → ∃ (at_ : List Int) (two : Bool), Ev (fun k => impl_places.l0 k o t (n : Int) (i : Int)) (at_, two) ∧ ((two = true ∧ PlacesOk o at_ n) ∨ (two = false ∧ (o.length ≠ n ∨ ∃ i : Nat, i < n ∧ ∀ j, j < o.length → rd o (j : Int) ≠ (i : Int)))) := by
    intro d
    induction d with
    | zero =>
      intro i hi t ht hp
      refine ⟨t, true, ⟨1, fun k hk => ?_⟩, .inl ⟨rfl, hl, ht, fun j hj => hp j (by omega)⟩⟩
      obtain ⟨k, rfl⟩ : ∃ m, k = m + 1 := ⟨k - 1, by omega⟩
      simp only [impl_places.l0]
      rw [if_neg (by omega)]
    | succ d ih =>
      intro i hi t ht hp
      obtain ⟨r, hr, hor⟩ := iIndex o (i : Int) ho
      have hst : ∀ {at_ : List Int} {two : Bool}, Ev (fun k => if rd (t.set i r) (i : Int) < 0 then some (([] : List Int), false) else impl_places.l0 k o (t.set i r) (n : Int) ((i + 1 : Nat) : Int)) (at_, two) → Ev (fun k => impl_places.l0 k o t (n : Int) (i : Int)) (at_, two) := fun h => by
        refine Ev.step (f := fun k => (slices_Index_int64_int64.f k o (i : Int)).bind fun u => if rd (t.set i u) (i : Int) < 0 then some (([] : List Int), false) else impl_places.l0 k o (t.set i u) (n : Int) ((i + 1 : Nat) : Int)) (fun k => ?_) (Ev.bind hr h)
        simp only [impl_places.l0]
        rw [if_pos (by omega)]
        congr 1
        funext u
        rw [if_pos (by omega), if_pos (by omega), Int.toNat_natCast, w1 (by omega)]
        rfl
      rcases hor with ⟨k, hk, rfl⟩ | ⟨rfl, hno⟩
      · obtain ⟨at_, two, h1, h2⟩ := ih (i + 1) (by omega) (t.set i (k : Int)) (by simp; exact ht) (fun j hj => by
          rcases Nat.lt_succ_iff_lt_or_eq.mp hj with h1 | h1
          · obtain ⟨k2, hk2, e⟩ := hp j h1
            exact ⟨k2, hk2, by rw [rd_set_other (by omega)]; exact e⟩
          · subst h1
            exact ⟨k, hk, rd_set_same (by omega)⟩)
        exact ⟨at_, two, hst (ev_else (by rw [rd_set_same (by omega)]; omega) h1), h2⟩
      · exact ⟨[], false, hst (ev_if (by rw [rd_set_same (by omega)]; omega) (Ev.now _)), .inr ⟨rfl, .inr ⟨i, by omega, hno⟩⟩⟩
  obtain ⟨at_, two, h1, h2⟩ := key n 0 (by omega) (List.replicate n 0) (by simp) (fun j hj => absurd hj (Nat.not_lt_zero _))
  refine ⟨at_, two, ev_if (by omega) (ev_if (by omega) (ev_if (by omega) ?_)), h2⟩
  refine ev_some ?_
  rw [Int.toNat_natCast, List.length_replicate]
  exact h1
/-- The pairs of i with the first c statements behind it. -/
def rowc (l : List S58) (i : Nat) : Nat → List (List Int)
  | 0 => []
  | c + 1 => rowc l i c ++ (if mst (rd_T58 l (i : Int)) (rd_T58 l ((i + 1 + c : Nat) : Int)) = true then [[(i : Int), ((i + 1 + c : Nat) : Int)]] else [])
def depsTo (l : List S58) : Nat → List (List Int)
  | 0 => []
  | i + 1 => depsTo l i ++ rowc l i (l.length - 1 - i)
theorem depsTo_succ (l : List S58) (i : Nat) : depsTo l (i + 1) = depsTo l i ++ rowc l i (l.length - 1 - i) := rfl
theorem rowc_len (l : List S58) (i c : Nat) : (rowc l i c).length ≤ c := by
  induction c with
  | zero => simp [rowc]
  | succ c ih =>
    unfold rowc
    rw [List.length_append]
    split
    · simp only [List.length_cons, List.length_nil]; omega
    · simp only [List.length_nil]; omega
theorem depsTo_len (l : List S58) (i : Nat) : (depsTo l i).length ≤ i * l.length := by
  induction i with
  | zero => simp [depsTo]
  | succ i ih =>
    unfold depsTo
    have := rowc_len l i (l.length - 1 - i)
    rw [List.length_append, Nat.succ_mul]
    omega
theorem rowc_mem {l : List S58} {i c : Nat} {p : List Int} : p ∈ rowc l i c ↔ ∃ b : Nat, i < b ∧ b < i + 1 + c ∧ mst (rd_T58 l (i : Int)) (rd_T58 l (b : Int)) = true ∧ p = [(i : Int), (b : Int)] := by
  induction c with
  | zero =>
    unfold rowc
    exact ⟨fun h => absurd h (by simp), fun ⟨b, h1, h2, _⟩ => absurd h1 (by omega)⟩
  | succ c ih =>
    unfold rowc
    rw [List.mem_append, ih]
    constructor
    · rintro (⟨b, h1, h2, h3⟩ | h)
      · exact ⟨b, h1, by omega, h3⟩
      · by_cases hm : mst (rd_T58 l (i : Int)) (rd_T58 l ((i + 1 + c : Nat) : Int)) = true
        · rw [if_pos hm, List.mem_singleton] at h
          exact ⟨i + 1 + c, by omega, by omega, hm, h⟩
        · rw [if_neg hm] at h
          cases h
    · rintro ⟨b, h1, h2, h3, h4⟩
      by_cases hb : b = i + 1 + c
      · subst hb
        right
        rw [if_pos h3, List.mem_singleton]
        exact h4
      · exact .inl ⟨b, h1, by omega, h3, h4⟩
theorem depsTo_mem {l : List S58} {n : Nat} (hn : n ≤ l.length) {p : List Int} : p ∈ depsTo l n ↔ ∃ a b : Nat, a < n ∧ a < b ∧ b < l.length ∧ mst (rd_T58 l (a : Int)) (rd_T58 l (b : Int)) = true ∧ p = [(a : Int), (b : Int)] := by
  induction n with
  | zero =>
    unfold depsTo
    exact ⟨fun h => absurd h (by simp), fun ⟨a, b, h1, _⟩ => absurd h1 (Nat.not_lt_zero _)⟩
  | succ n ih =>
    unfold depsTo
    rw [List.mem_append, ih (by omega), rowc_mem]
    constructor
    · rintro (⟨a, b, h1, h2⟩ | ⟨b, h1, h2, h3, h4⟩)
      · exact ⟨a, b, by omega, h2⟩
      · exact ⟨n, b, by omega, h1, by omega, h3, h4⟩
    · rintro ⟨a, b, h1, h2, h3, h4, h5⟩
      by_cases ha : a = n
      · subst ha
        exact .inr ⟨b, h2, by omega, h4, h5⟩
      · exact .inl ⟨a, b, by omega, h2, h3, h4, h5⟩
theorem iDeps (l : List S58) (hv : cOk l = true) : Ev (fun k => impl_DependencesOf.f k l) (depsTo l l.length, true) := by
  have h16 := cOk_len hv
  have hsq : ∀ i, i ≤ l.length → (depsTo l i).length ≤ 256 := fun i hi => Nat.le_trans (depsTo_len l i) (Nat.le_trans (Nat.mul_le_mul hi (Nat.le_refl _)) (Nat.le_trans (Nat.mul_le_mul h16 h16) (by decide)))
  unfold impl_DependencesOf.f
  simp only [iValid]
  refine ev_some (ev_if hv ?_)
  have key : ∀ d i : Nat, i + d = l.length → Ev (fun k => impl_DependencesOf.l0 k l (depsTo l i) (l.length : Int) (i : Int)) (depsTo l l.length, true) := by
    intro d
    induction d with
    | zero =>
      intro i hi
      obtain rfl : i = l.length := by omega
      refine ⟨1, fun k hk => ?_⟩
      obtain ⟨k, rfl⟩ : ∃ m, k = m + 1 := ⟨k - 1, by omega⟩
      simp only [impl_DependencesOf.l0]
      rw [if_neg (by omega)]
    | succ d ih =>
      intro i hi
      have hn := ih (i + 1) (by omega)
      have inner : ∀ e c : Nat, i + 1 + c + e = l.length → Ev (fun k => impl_DependencesOf.l1 k l (depsTo l i ++ rowc l i c) (i : Int) ((i + 1 + c : Nat) : Int) (l.length : Int) (i : Int)) (depsTo l l.length, true) := by
        intro e
        induction e with
        | zero =>
          intro c hc
          refine Ev.step (fun k => ?_) hn
          simp only [impl_DependencesOf.l1]
          rw [if_neg (by omega), w1 (by omega), depsTo_succ]
          rw [show l.length - 1 - i = c by omega]
        | succ e ih2 =>
          intro c hc
          have hl1 := hsq i (by omega)
          have hl2 := rowc_len l i c
          have hnx := ih2 (c + 1) (by omega)
          unfold rowc at hnx
          cases hm : mst (rd_T58 l (i : Int)) (rd_T58 l ((i + 1 + c : Nat) : Int)) with
          | true =>
            rw [hm, if_pos rfl, ← List.append_assoc] at hnx
            refine Ev.step (fun k => ?_) hnx
            simp only [impl_DependencesOf.l1]
            rw [if_pos (by omega), if_pos (by omega), if_pos (by omega), if_pos (by omega), iFollows, Option.bind_some, hm, if_pos rfl, if_pos (by rw [List.length_append]; omega), w1 (by omega)]
            rfl
          | false =>
            rw [hm, if_neg (by decide), List.append_nil] at hnx
            refine Ev.step (fun k => ?_) hnx
            simp only [impl_DependencesOf.l1]
            rw [if_pos (by omega), if_pos (by omega), if_pos (by omega), if_pos (by omega), iFollows, Option.bind_some, hm, if_neg (by decide), w1 (by omega)]
            rfl
      have h0 := inner (l.length - (i + 1)) 0 (by omega)
      refine Ev.step (fun k => ?_) h0
      simp only [impl_DependencesOf.l0]
      rw [if_pos (by omega), w1 (by omega)]
      simp [rowc]
  exact key l.length 0 (by omega)
theorem has_iff {o : List Int} {x : Nat} {n : Int} (hx : x ≤ o.length) : hasB (o.take x) n = true ↔ ∃ j, j < x ∧ rd o (j : Int) = n := by
  unfold hasB
  rw [List.any_eq_true]
  constructor
  · rintro ⟨y, hy, he⟩
    obtain ⟨j, hj, e⟩ := List.getElem_of_mem hy
    rw [List.length_take] at hj
    refine ⟨j, by omega, ?_⟩
    rw [rd_get (by omega), ← of_decide_eq_true he, ← e, List.getElem_take]
  · rintro ⟨j, hj, e⟩
    refine ⟨n, ?_, by simp⟩
    rw [List.mem_iff_getElem]
    exact ⟨j, by rw [List.length_take]; omega, by rw [List.getElem_take, ← rd_get (by omega)]; exact e⟩
theorem okAt_iff {l : List S58} {o : List Int} {x : Nat} (hx : x ≤ o.length) : okAt l o x = true ↔ (0 ≤ rd o (x : Int) ∧ rd o (x : Int) ≤ (l.length : Int) - 1) ∧ (∀ j, j < x → rd o (j : Int) ≠ rd o (x : Int)) ∧ ∀ i : Nat, i < (rd o (x : Int)).toNat → mst (rd_T58 l (i : Int)) (rd_T58 l (rd o (x : Int))) = true → ∃ j, j < x ∧ rd o (j : Int) = (i : Int) := by
  unfold okAt
  rw [Bool.and_eq_true, Bool.and_eq_true, decide_eq_true_iff, List.all_eq_true]
  refine and_congr Iff.rfl (and_congr ?_ ?_)
  · rw [Bool.not_eq_true', ← Bool.not_eq_true, has_iff hx]
    exact ⟨fun h j hj e => h ⟨j, hj, e⟩, fun h ⟨j, hj, e⟩ => h j hj e⟩
  · constructor
    · intro h i hi hm
      have := h i (List.mem_range.mpr hi)
      unfold inAt at this
      rw [hm, Bool.true_and, Bool.not_not] at this
      exact (has_iff hx).mp this
    · intro h i hi
      unfold inAt
      cases hm : mst (rd_T58 l (i : Int)) (rd_T58 l (rd o (x : Int))) with
      | false => rfl
      | true =>
        rw [(has_iff hx).mpr (h i (List.mem_range.mp hi) hm)]; rfl
theorem ordB_iff {l : List S58} {o : List Int} : ordB l o = true ↔ o.length = l.length ∧ ∀ x, x < o.length → okAt l o x = true := by
  unfold ordB
  rw [Bool.and_eq_true, decide_eq_true_iff, List.all_eq_true]
  exact and_congr Iff.rfl ⟨fun h x hx => h x (List.mem_range.mpr hx), fun h x hx => h x (List.mem_range.mp hx)⟩
theorem ord_surj {l : List S58} {o : List Int} (h : ordB l o = true) : ∀ i : Nat, i < o.length → ∃ k, k < o.length ∧ rd o (k : Int) = (i : Int) := by
  obtain ⟨he, h⟩ := ordB_iff.mp h
  refine inj_surj (fun k hk => ?_) (fun j k hj hk => ?_)
  · have := ((okAt_iff (by omega)).mp (h k hk)).1
    omega
  · exact ((okAt_iff (by omega)).mp (h k hk)).2.1 j hj
theorem ord_pairs {l : List S58} {o at_ : List Int} (hp : PlacesOk o at_ l.length) : ordB l o = true ↔ ∀ a b : Nat, a < b → b < l.length → mst (rd_T58 l (a : Int)) (rd_T58 l (b : Int)) = true → rd at_ (a : Int) < rd at_ (b : Int) := by
  obtain ⟨hl, ha, hk⟩ := hp
  obtain ⟨hrg, hinj⟩ := surj_inj (o := o) (fun i hi => by
    obtain ⟨k, ⟨h1, h2, _⟩, _⟩ := hk i (by omega)
    exact ⟨k, h1, h2⟩)
  have huniq : ∀ j k, j < o.length → k < o.length → rd o (j : Int) = rd o (k : Int) → j = k := fun j k hj hk e => by
    rcases Nat.lt_trichotomy j k with h | h | h
    · exact absurd e (hinj j k h hk)
    · exact h
    · exact absurd e.symm (hinj k j h hj)
  rw [ordB_iff]
  constructor
  · rintro ⟨_, h⟩ a b hab hb hm
    obtain ⟨kb, ⟨b1, b2, b3⟩, eb⟩ := hk b hb
    obtain ⟨ka, ⟨a1, a2, a3⟩, ea⟩ := hk a (by omega)
    obtain ⟨_, _, h3⟩ := (okAt_iff (by omega)).mp (h kb b1)
    rw [b2] at h3
    obtain ⟨j, hj, e⟩ := h3 a (by omega) hm
    have : ¬ j < ka := fun hlt => a3 j hlt e
    rw [ea, eb]
    omega
  · intro h
    refine ⟨hl, fun x hx => (okAt_iff (by omega)).mpr ⟨?_, fun j hj => hinj j x hj hx, fun i hi hm => ?_⟩⟩
    · have := hrg x hx
      omega
    · obtain ⟨r0, r1⟩ := hrg x hx
      obtain ⟨b, hb⟩ : ∃ b : Nat, rd o (x : Int) = (b : Int) := ⟨(rd o (x : Int)).toNat, by omega⟩
      rw [hb] at hm hi
      have hlt := h i b (by omega) (by omega) hm
      obtain ⟨kb, ⟨b1, b2, _⟩, eb⟩ := hk b (by omega)
      obtain ⟨ki, ⟨i1, i2, _⟩, ei⟩ := hk i (by omega)
      have : kb = x := huniq kb x b1 hx (by rw [b2, hb])
      subst this
      exact ⟨ki, by rw [ei, eb] at hlt; omega, i2⟩
theorem sIsOrder (l : List S58) (o : List Int) (hl : l.length ≤ 1048576) : Ev (fun k => spec_IsOrder.f k l o) (cOk l && ordB l o) := by
  unfold spec_IsOrder.f
  refine Ev.bind (sIs l hl) ?_
  cases hv : cOk l with
  | false => exact ev_else (by decide) (Ev.now _)
  | true =>
    refine ev_if rfl ?_
    unfold spec_l03Order.f
    rw [if_pos hl]
    exact Ev.now _
theorem iIsOrder (l : List S58) (o : List Int) (hl : l.length ≤ 1048576) (ho : o.length ≤ 1048576) : Ev (fun k => impl_IsOrder.f k l o) (cOk l && ordB l o) := by
  unfold impl_IsOrder.f
  obtain ⟨at_, two, hp, hor⟩ := iPlaces o l.length ho
  cases hv : cOk l with
  | false =>
    have h0 : Ev (fun k => impl_DependencesOf.f k l) ([], false) := by
      unfold impl_DependencesOf.f
      simp only [iValid]
      exact ev_some (ev_else (by rw [hv]; decide) (Ev.now _))
    exact Ev.bind h0 (Ev.bind hp (ev_else (show ¬ (false = true) by decide) (Ev.now _)))
  | true =>
    refine Ev.bind (iDeps l hv) (Ev.bind hp (ev_if rfl ?_))
    rcases hor with ⟨rfl, hk⟩ | ⟨rfl, hno⟩
    · have hmem : ∀ j, j < (depsTo l l.length).length → rdL (depsTo l l.length) (j : Int) ∈ depsTo l l.length := fun j hj => by
        unfold rdL
        rw [Int.toNat_natCast, List.getD_eq_getElem?_getD, List.getElem?_eq_getElem hj]
        exact List.getElem_mem hj
      refine ev_if rfl (ev_if ?_ ?_)
      · refine List.all_eq_true.mpr fun j hj => ?_
        obtain ⟨a, b, h1, h2, h3, _, e⟩ := (depsTo_mem (Nat.le_refl _)).mp (hmem j (List.mem_range.mp hj))
        rw [e]
        unfold pOk
        have := hk.2.1
        refine decide_eq_true ⟨rfl, ⟨?_, ?_⟩, ?_, ?_⟩
        · show 0 ≤ (a : Int); omega
        · show (a : Int) < (at_.length : Int); omega
        · show 0 ≤ (b : Int); omega
        · show (b : Int) < (at_.length : Int); omega
      · have e : ((List.range (depsTo l l.length).length).all fun j => befB at_ (rdL (depsTo l l.length) (j : Int))) = (true && ordB l o) := by
          rw [Bool.true_and, Bool.eq_iff_iff, ord_pairs hk, List.all_eq_true]
          constructor
          · intro h a b hab hb hm
            have hin := (depsTo_mem (l := l) (Nat.le_refl l.length) (p := [(a : Int), (b : Int)])).mpr ⟨a, b, by omega, hab, hb, hm, rfl⟩
            obtain ⟨j, hj, e⟩ := List.getElem_of_mem hin
            have h2 := h j (List.mem_range.mpr hj)
            unfold befB rdL at h2
            rw [Int.toNat_natCast, List.getD_eq_getElem?_getD, List.getElem?_eq_getElem hj] at h2
            have h3 := of_decide_eq_true h2
            rw [Option.getD_some, e] at h3
            exact h3
          · intro h j hj
            obtain ⟨a, b, h1, h2, h3, h4, e⟩ := (depsTo_mem (Nat.le_refl _)).mp (hmem j (List.mem_range.mp hj))
            rw [e]
            unfold befB
            exact decide_eq_true (h a b h2 h3 h4)
        rw [← e]
        exact Ev.now _
    · have e : ordB l o = false := by
        rw [← Bool.not_eq_true]
        intro h
        rcases hno with hne | ⟨i, hi, hno⟩
        · exact hne (ordB_iff.mp h).1
        · obtain ⟨k, hk, e⟩ := ord_surj h i (by have := (ordB_iff.mp h).1; omega)
          exact hno k hk e
      rw [e]
      exact ev_else (show ¬ (false = true) by decide) (Ev.now _)
end Go.Proofs.Yteknfebehafbdaa.V
