/- For all arguments the law FnExactNeededFor answers true. No condition. -/
import Derived.Test.YteknfebehafbdaaK24
import Derived.Test.YteknfebehafbdaaV0
import Derived.Test.YteknfebehafbdaaVC
import Derived.Test.YteknfebehafbdaaVO
import Derived.Test.YteknfebehafbdaaVE
import Derived.Test.YteknfebehafbdaaVM
import Derived.Test.YteknfebehafbdaaVT
import Derived.Test.YteknfebehafbdaaVS
import Derived.Test.YteknfebehafbdaaVP
namespace Go.Proofs.Yteknfebehafbdaa.Pure
open Go.RowKit Go.Proofs.Yteknfebehafbdaa.K Go.Proofs.Yteknfebehafbdaa.V Go.Proofs.Yteknfebehafbdaa.Bx Go.Proofs.YteknfebehafbdaaW.PrintWords Go.Proofs.YteknfebehafbdaaW.PrintLast
set_option linter.unusedVariables false

theorem wm1 {i : Nat} (h : 0 < i) (h2 : i < 2000000) : wrap64 ((i : Int) - 1) = ((i - 1 : Nat) : Int) := by unfold wrap64; omega
/-- Each number from the place i on is greater than the one ahead of it. -/
theorem iSet (l : List Int) (hl : l.length ≤ 1048576) : Ev (fun k => impl_isSet.f k l) (decide (∀ j, j < l.length → 1 ≤ j → rd l ((j - 1 : Nat) : Int) < rd l (j : Int))) := by
  unfold impl_isSet.f
  have key : ∀ d i : Nat, 1 ≤ i → i ≤ 1048577 → l.length ≤ i + d → Ev (fun k => impl_isSet.l0 k l (i : Int)) (decide (∀ j, j < l.length → i ≤ j → rd l ((j - 1 : Nat) : Int) < rd l (j : Int))) := by
    intro d
    induction d with
    | zero =>
      intro i h1 hi2 hi
      rw [decide_eq_true (fun j hj hij => absurd hj (by omega))]
      refine ⟨1, fun k hk => ?_⟩
      obtain ⟨k, rfl⟩ : ∃ m, k = m + 1 := ⟨k - 1, by omega⟩
      simp only [impl_isSet.l0]
      rw [if_neg (by omega)]
    | succ d ih =>
      intro i h1 hi2 hi
      by_cases hlt : i < l.length
      · by_cases hr : rd l (i : Int) ≤ rd l ((i - 1 : Nat) : Int)
        · rw [decide_eq_false (fun h => by have := h i hlt (Nat.le_refl _); omega)]
          refine ⟨1, fun k hk => ?_⟩
          obtain ⟨k, rfl⟩ : ∃ m, k = m + 1 := ⟨k - 1, by omega⟩
          simp only [impl_isSet.l0]
          rw [if_pos (by omega), if_pos (by omega), wm1 (by omega) (by omega), if_pos (by omega), if_pos (by omega), if_pos hr]
        · have e : decide (∀ j, j < l.length → i ≤ j → rd l ((j - 1 : Nat) : Int) < rd l (j : Int)) = decide (∀ j, j < l.length → i + 1 ≤ j → rd l ((j - 1 : Nat) : Int) < rd l (j : Int)) := by
            refine decide_eq_decide.mpr ⟨fun h j hj hij => h j hj (by omega), fun h j hj hij => ?_⟩
            by_cases hji : j = i
            · subst hji; omega
            · exact h j hj (by omega)
          rw [e]
          refine Ev.step (fun k => ?_) (ih (i + 1) (by omega) (by omega) (by omega))
          simp only [impl_isSet.l0]
          rw [if_pos (by omega), if_pos (by omega), wm1 (by omega) (by omega), if_pos (by omega), if_pos (by omega), if_neg hr, w1 (by omega)]
      · rw [decide_eq_true (fun j hj hij => absurd hj (by omega))]
        refine ⟨1, fun k hk => ?_⟩
        obtain ⟨k, rfl⟩ : ∃ m, k = m + 1 := ⟨k - 1, by omega⟩
        simp only [impl_isSet.l0]
        rw [if_neg (by omega)]
  have := key l.length 1 (by omega) (by omega) (by omega)
  exact this
theorem sRises (l : List Int) (hl : l.length ≤ 1048576) : Ev (fun k => spec_l00Rises.f k l 0 31) (decide (∀ j, j < l.length → 0 ≤ j → (0 ≤ rd l (j : Int) ∧ rd l (j : Int) ≤ 31) ∧ (1 ≤ j → rd l ((j - 1 : Nat) : Int) < rd l (j : Int)))) := by
  unfold spec_l00Rises.f
  have key : ∀ d i : Nat, i ≤ 1048577 → l.length ≤ i + d → Ev (fun k => spec_l00Rises.l0 k l 0 31 (i : Int)) (decide (∀ j, j < l.length → i ≤ j → (0 ≤ rd l (j : Int) ∧ rd l (j : Int) ≤ 31) ∧ (1 ≤ j → rd l ((j - 1 : Nat) : Int) < rd l (j : Int)))) := by
    intro d
    induction d with
    | zero =>
      intro i hi2 hi
      rw [decide_eq_true (fun j hj hij => absurd hj (by omega))]
      refine ⟨1, fun k hk => ?_⟩
      obtain ⟨k, rfl⟩ : ∃ m, k = m + 1 := ⟨k - 1, by omega⟩
      simp only [spec_l00Rises.l0]
      rw [if_neg (by omega)]
    | succ d ih =>
      intro i hi2 hi
      by_cases hlt : i < l.length
      · by_cases hin : 0 ≤ rd l (i : Int) ∧ rd l (i : Int) ≤ 31
        · by_cases hr : 1 ≤ i → rd l ((i - 1 : Nat) : Int) < rd l (i : Int)
          · have e : decide (∀ j, j < l.length → i ≤ j → (0 ≤ rd l (j : Int) ∧ rd l (j : Int) ≤ 31) ∧ (1 ≤ j → rd l ((j - 1 : Nat) : Int) < rd l (j : Int))) = decide (∀ j, j < l.length → i + 1 ≤ j → (0 ≤ rd l (j : Int) ∧ rd l (j : Int) ≤ 31) ∧ (1 ≤ j → rd l ((j - 1 : Nat) : Int) < rd l (j : Int))) := by
              refine decide_eq_decide.mpr ⟨fun h j hj hij => h j hj (by omega), fun h j hj hij => ?_⟩
              by_cases hji : j = i
              · subst hji; exact ⟨hin, hr⟩
              · exact h j hj (by omega)
            rw [e]
            refine Ev.step (fun k => ?_) (ih (i + 1) (by omega) (by omega))
            simp only [spec_l00Rises.l0]
            rw [if_pos (by omega), if_pos (by omega), sIn, Option.bind_some, if_pos (decide_eq_true hin)]
            by_cases h0 : i = 0
            · subst h0
              rw [if_neg (by omega), w1 (by omega)]
            · have := hr (by omega)
              rw [if_pos (by omega), wm1 (by omega) (by omega), if_pos (by omega), if_pos (by omega), if_neg (by omega), w1 (by omega)]
          · rw [decide_eq_false (fun h => hr (h i hlt (Nat.le_refl _)).2)]
            have hr2 : 1 ≤ i ∧ rd l (i : Int) ≤ rd l ((i - 1 : Nat) : Int) := by
              by_cases h1 : 1 ≤ i
              · exact ⟨h1, Int.not_lt.mp fun h => hr fun _ => h⟩
              · exact absurd (fun h => absurd h h1) hr
            refine ⟨1, fun k hk => ?_⟩
            obtain ⟨k, rfl⟩ : ∃ m, k = m + 1 := ⟨k - 1, by omega⟩
            simp only [spec_l00Rises.l0]
            rw [if_pos (by omega), if_pos (by omega), sIn, Option.bind_some, if_pos (decide_eq_true hin), if_pos (by omega), wm1 (by omega) (by omega), if_pos (by omega), if_pos (by omega), if_pos hr2.2]
        · rw [decide_eq_false (fun h => hin (h i hlt (Nat.le_refl _)).1)]
          refine ⟨1, fun k hk => ?_⟩
          obtain ⟨k, rfl⟩ : ∃ m, k = m + 1 := ⟨k - 1, by omega⟩
          simp only [spec_l00Rises.l0]
          rw [if_pos (by omega), if_pos (by omega), sIn, Option.bind_some, if_neg (by rw [decide_eq_false hin]; decide)]
      · rw [decide_eq_true (fun j hj hij => absurd hj (by omega))]
        refine ⟨1, fun k hk => ?_⟩
        obtain ⟨k, rfl⟩ : ∃ m, k = m + 1 := ⟨k - 1, by omega⟩
        simp only [spec_l00Rises.l0]
        rw [if_neg (by omega)]
  exact key l.length 0 (by omega) (by omega)
theorem celAll_iff (l : List Int) : celAll l = true ↔ ∀ j, j < l.length → 0 ≤ rd l (j : Int) ∧ rd l (j : Int) ≤ 31 := by
  unfold celAll
  rw [List.all_eq_true]
  exact ⟨fun h j hj => cellB_is.mp (h j (List.mem_range.mpr hj)), fun h j hj => cellB_is.mpr (h j (List.mem_range.mp hj))⟩
/-- Marks as a list. -/
def bl (m : Nat → Bool) : List Bool := (List.range 32).map m
theorem bl_len (m : Nat → Bool) : (bl m).length = 32 := by unfold bl; simp
theorem bl_set (m : Nat → Bool) {i : Int} (h0 : 0 ≤ i) (b : Bool) : (bl m).set i.toNat b = bl (put m i b) := by
  unfold bl
  apply List.ext_getElem
  · simp
  · intro j h1 h2
    have hj : j < 32 := by simpa using h2
    rw [List.getElem_map, List.getElem_range, List.getElem_set]
    unfold put
    by_cases hij : i.toNat = j
    · rw [if_pos hij, if_pos (by omega)]
    · rw [if_neg hij, if_neg (by omega), List.getElem_map, List.getElem_range]
theorem bl_rd (m : Nat → Bool) {i : Int} (h0 : 0 ≤ i) (h1 : i ≤ 31) : rdOf false (bl m) i = m i.toNat := by
  unfold rdOf bl
  rw [List.getD_eq_getElem?_getD, List.getElem?_map, List.getElem?_range (by omega)]; rfl
theorem ndd_gt (l : List S58) (m : Nat → Bool) : ∀ x, ∀ n ∈ (ndd l m x).2, (l.length : Int) - 1 - (x : Int) < n := by
  intro x
  induction x with
  | zero => intro n hn; cases hn
  | succ x ih =>
    intro n hn
    unfold ndd at hn
    split at hn
    · rcases List.mem_append.mp hn with h | h
      · have := ih n h; omega
      · rw [List.mem_singleton.mp h]; omega
    · have := ih n hn; omega
theorem sLoop1 {l : List S58} {c : List Int} {r : List Int × Bool} (hc : c.length ≤ 1048576) (hq : celAll c = true) (hn : Ev (fun k => spec_NeededFor.l1 k l (bl (lvm c c.length)) [] (wrap64 ((l.length : Int) - 1))) r) : Ev (fun k => spec_NeededFor.l0 k l c (List.replicate 32 false) 0) r := by
  have hq2 := (celAll_iff c).mp hq
  have key : ∀ d i : Nat, i + d = c.length → Ev (fun k => spec_NeededFor.l0 k l c (bl (lvm c i)) (i : Int)) r := by
    intro d
    induction d with
    | zero =>
      intro i hi
      obtain rfl : i = c.length := by omega
      refine Ev.step (fun k => ?_) hn
      simp only [spec_NeededFor.l0]
      rw [if_neg (by omega)]
    | succ d ih =>
      intro i hi
      obtain ⟨h0, h1⟩ := hq2 i (by omega)
      have hb := bl_len (lvm c i)
      refine Ev.step (fun k => ?_) (ih (i + 1) (by omega))
      simp only [spec_NeededFor.l0]
      rw [if_pos (by omega), if_pos (by omega), if_pos h0, if_pos (by omega), bl_set _ h0, w1 (by omega)]
      rfl
  exact key c.length 0 (by omega)
theorem sLoop2 {l : List S58} {m : Nat → Bool} (hv : cOk l = true) : Ev (fun k => spec_NeededFor.l1 k l (bl m) [] (wrap64 ((l.length : Int) - 1))) ((ndd l m l.length).2.reverse, true) := by
  have h16 := cOk_len hv
  have key : ∀ d y : Nat, y + d = l.length → Ev (fun k => spec_NeededFor.l1 k l (bl (ndd l m y).1) (ndd l m y).2.reverse ((l.length : Int) - 1 - (y : Int))) ((ndd l m l.length).2.reverse, true) := by
    intro d
    induction d with
    | zero =>
      intro y hy
      obtain rfl : y = l.length := by omega
      refine ⟨1, fun k hk => ?_⟩
      obtain ⟨k, rfl⟩ : ∃ m, k = m + 1 := ⟨k - 1, by omega⟩
      simp only [spec_NeededFor.l1]
      rw [if_neg (by omega)]
    | succ d ih =>
      intro y hy
      obtain ⟨i, hi⟩ : ∃ i : Nat, (l.length : Int) - 1 - (y : Int) = (i : Int) := ⟨l.length - 1 - y, by omega⟩
      obtain ⟨_, ⟨d0, d1⟩, ⟨a0, a1⟩, b0, b1⟩ := cOk_at hv (by omega : i < l.length)
      have hb := bl_len (ndd l m y).1
      have hw : wrap64 ((i : Int) - 1) = (l.length : Int) - 1 - ((y + 1 : Nat) : Int) := by unfold wrap64; omega
      have hn := ih (y + 1) (by omega)
      have hg := ndd_gt l m y
      rw [hi] at hg ⊢
      cases hm : (ndd l m y).1 (rd_T58 l (i : Int)).f1.toNat with
      | true =>
        rw [ndd_t hi hm] at hn
        refine Ev.step (f := fun k => (spec_l00Put.f k (ndd l m y).2.reverse (i : Int)).bind fun t => spec_NeededFor.l1 k l (bl (put (put (put (ndd l m y).1 (rd_T58 l (i : Int)).f1 false) (rd_T58 l (i : Int)).f2 true) (rd_T58 l (i : Int)).f3 true)) t ((l.length : Int) - 1 - ((y + 1 : Nat) : Int))) (fun k => ?_) (Ev.bind (sPut _ _ (by have := ndd_len l m y; rw [List.length_reverse]; omega)) ?_)
        · simp only [spec_NeededFor.l1]
          rw [if_pos (by omega), if_pos (by omega), if_pos (by omega), if_pos d0, if_pos (by omega), bl_rd _ d0 d1, if_pos hm, if_pos a0, if_pos (by omega), if_pos b0, if_pos (by omega), bl_set _ d0, bl_set _ a0, bl_set _ b0, hw]
        · rw [ins_front (fun x hx => hg x (List.mem_reverse.mp hx))]
          rw [List.reverse_append] at hn
          exact hn
      | false =>
        rw [ndd_f hi hm] at hn
        refine Ev.step (fun k => ?_) hn
        simp only [spec_NeededFor.l1]
        rw [if_pos (by omega), if_pos (by omega), if_pos (by omega), if_pos d0, if_pos (by omega), bl_rd _ d0 d1, if_neg (by rw [hm]; decide), hw]
  have := key l.length 0 (by omega)
  have e : wrap64 ((l.length : Int) - 1) = (l.length : Int) - 1 - ((0 : Nat) : Int) := by unfold wrap64; omega
  rw [e]
  exact this
theorem iReverse (l : List Int) (hl : l.length ≤ 1048576) : Ev (fun k => slices_Reverse_int64_int64.f k l) l.reverse := by
  unfold slices_Reverse_int64_int64.f
  have key : ∀ d i : Nat, l.length ≤ 2 * i + d → i ≤ l.length → ∀ t : List Int, t.length = l.length → (∀ p, p < l.length → t[p]? = if p < i ∨ l.length - i ≤ p then l[l.length - 1 - p]? else l[p]?) → Ev (fun k => slices_Reverse_int64_int64.l0 k t (i : Int) ((l.length : Int) - 1 - (i : Int))) l.reverse := by
    intro d
    induction d using Nat.strongRecOn with
    | ind d ih =>
      intro i hd hi2 t ht hp
      by_cases hlt : (i : Int) < (l.length : Int) - 1 - (i : Int)
      · obtain ⟨j, hj⟩ : ∃ j : Nat, (l.length : Int) - 1 - (i : Int) = (j : Int) := ⟨l.length - 1 - i, by omega⟩
        have e2 : wrap64 ((j : Int) - 1) = (l.length : Int) - 1 - ((i + 1 : Nat) : Int) := by unfold wrap64; omega
        refine Ev.step (fun k => ?_) (ih (d - 2) (by omega) (i + 1) (by omega) (by omega) ((t.set i (rd t (j : Int))).set j (rd t (i : Int))) (by simp; exact ht) ?_)
        · rw [hj]
          simp only [slices_Reverse_int64_int64.l0]
          rw [if_pos (by omega), if_pos (by omega), if_pos (by omega), if_pos (by omega), if_pos (by omega), Int.toNat_natCast, Int.toNat_natCast, w1 (by omega), e2]
        · intro p hpl
          have hpi := hp i (by omega)
          have hpj := hp j (by omega)
          rw [if_neg (by omega)] at hpi hpj
          have hri : some (rd t (i : Int)) = l[i]? := by
            rw [← hpi, rd_nat, List.getD_eq_getElem?_getD, List.getElem?_eq_getElem (by omega)]; rfl
          have hrj : some (rd t (j : Int)) = l[j]? := by
            rw [← hpj, rd_nat, List.getD_eq_getElem?_getD, List.getElem?_eq_getElem (by omega)]; rfl
          rw [List.getElem?_set]
          by_cases h1 : j = p
          · subst h1
            rw [if_pos rfl, if_pos (by simp; omega), if_pos (by omega), hri, show l.length - 1 - j = i by omega]
          · rw [if_neg h1, List.getElem?_set]
            by_cases h2 : i = p
            · subst h2
              rw [if_pos rfl, if_pos (by omega), if_pos (by omega), hrj, show l.length - 1 - i = j by omega]
            · rw [if_neg h2, hp p hpl]
              by_cases h3 : p < i ∨ l.length - i ≤ p
              · rw [if_pos h3, if_pos (by omega)]
              · rw [if_neg h3, if_neg (by omega)]
      · have e : t = l.reverse := by
          apply List.ext_getElem?
          intro p
          by_cases hpl : p < l.length
          · rw [hp p hpl, List.getElem?_reverse hpl]
            by_cases h3 : p < i ∨ l.length - i ≤ p
            · rw [if_pos h3]
            · rw [if_neg h3, show l.length - 1 - p = p by omega]
          · rw [List.getElem?_eq_none (by omega), List.getElem?_eq_none (by rw [List.length_reverse]; omega)]
        refine ⟨1, fun k hk => ?_⟩
        obtain ⟨k, rfl⟩ : ∃ m, k = m + 1 := ⟨k - 1, by omega⟩
        simp only [slices_Reverse_int64_int64.l0]
        rw [if_neg hlt, e]
  have e : wrap64 ((l.length : Int) - 1) = (l.length : Int) - 1 - ((0 : Nat) : Int) := by unfold wrap64; omega
  rw [e]
  exact key l.length 0 (by omega) (by omega) l rfl (fun p hp => by rw [if_neg (by omega)])
theorem FnExactNeededFor : ∀ (l : List S62) (c : List Int), l.length ≤ 4398046511104 → c.length ≤ 17592186044415 → ∃ k, laws_FnExactNeededFor.f k l c = some true := by
  intro l c hm hm2
  refine Ev.rounds (g := fun k => laws_FnExactNeededFor.f k l c) ?_
  unfold laws_FnExactNeededFor.f
  by_cases hcc : (c.length : Int) > 1048576
  · exact ev_if hcc (Ev.now _)
  refine ev_else hcc (ev_eq (sz l hm) ?_)
  by_cases h : 1048576 < l.length
  · rw [if_pos h]
    exact ev_if (by decide) (Ev.now _)
  rw [if_neg h]
  refine ev_else (by omega) ?_
  have hl : l.length ≤ 1048576 := by omega
  have hc : (l.map cv).length ≤ 1048576 := by rw [List.length_map]; exact hl
  have bc : c.length ≤ 1048576 := by omega
  obtain ⟨o, ok, ho, hs, hi⟩ : ∃ (o : List Int) (ok : Bool), o.length ≤ 1048576 ∧ Ev (fun k => spec_NeededFor.f k (l.map cv) c) (o, ok) ∧ Ev (fun k => impl_NeededFor.f k (l.map cv) c) (o, ok) := by
    have bad : ∀ k, spec_NeededFor.j0 (k + 1) (l.map cv) c true = some ([], false) := fun k => by simp only [spec_NeededFor.j0]; rw [if_pos trivial]
    have badE : Ev (fun k => spec_NeededFor.j0 k (l.map cv) c true) ([], false) := ⟨1, fun k hk => by
      obtain ⟨k, rfl⟩ : ∃ m, k = m + 1 := ⟨k - 1, by omega⟩
      exact bad k⟩
    cases hv : cOk (l.map cv) with
    | false =>
      refine ⟨[], false, by simp, ?_, ?_⟩
      · unfold spec_NeededFor.f
        exact Ev.bind (sIs _ hc) (ev_else (by rw [hv]; decide) badE)
      · unfold impl_NeededFor.f
        exact ev_else (show ¬ (vOk (l.map cv) = true) by show ¬ (cOk (l.map cv) = true); rw [hv]; decide) (Ev.now _)
    | true =>
      have hv2 : vOk (l.map cv) = true := hv
      by_cases hS : ∀ j, j < c.length → 1 ≤ j → rd c ((j - 1 : Nat) : Int) < rd c (j : Int)
      · cases hq : celAll c with
        | true =>
          have hq2 := (celAll_iff c).mp hq
          refine ⟨(ndd (l.map cv) (lvm c c.length) (l.map cv).length).2.reverse, true, by have := ndd_len (l.map cv) (lvm c c.length) (l.map cv).length; rw [List.length_reverse]; omega, ?_, ?_⟩
          · unfold spec_NeededFor.f
            refine Ev.bind (sIs _ hc) (ev_if hv (Ev.bind (sRises c bc) ?_))
            rw [decide_eq_true (fun j hj _ => ⟨hq2 j hj, fun h => hS j hj h⟩)]
            refine Ev.step (fun k => by simp only [spec_NeededFor.j0]; rw [if_neg (by decide), if_pos (by decide)]) (sLoop1 bc hq (sLoop2 hv))
          · unfold impl_NeededFor.f
            refine ev_if hv2 (Ev.bind (iSet c bc) ?_)
            rw [decide_eq_true hS]
            exact ev_if rfl (ev_if hq (Ev.bind (iReverse _ (by have := ndd_len (l.map cv) (lvm c c.length) (l.map cv).length; omega)) (Ev.now _)))
        | false =>
          refine ⟨[], false, by simp, ?_, ?_⟩
          · unfold spec_NeededFor.f
            refine Ev.bind (sIs _ hc) (ev_if hv (Ev.bind (sRises c bc) ?_))
            rw [decide_eq_false (fun h => by have := (celAll_iff c).mpr (fun j hj => (h j hj (Nat.zero_le _)).1); rw [hq] at this; cases this)]
            exact badE
          · unfold impl_NeededFor.f
            refine ev_if hv2 (Ev.bind (iSet c bc) ?_)
            rw [decide_eq_true hS]
            exact ev_if rfl (ev_else (by rw [hq]; decide) (Ev.now _))
      · refine ⟨[], false, by simp, ?_, ?_⟩
        · unfold spec_NeededFor.f
          refine Ev.bind (sIs _ hc) (ev_if hv (Ev.bind (sRises c bc) ?_))
          rw [decide_eq_false (fun h => hS (fun j hj hj1 => (h j hj (Nat.zero_le _)).2 hj1))]
          exact badE
        · unfold impl_NeededFor.f
          refine ev_if hv2 (Ev.bind (iSet c bc) ?_)
          rw [decide_eq_false hS]
          exact ev_else (by decide) (Ev.now _)
  obtain ⟨t, ht⟩ := V.markS (l.map cv) 1 hc (by omega)
  have e4 : ((l.map cv).length : Int) ≤ 1048576 := by omega
  refine Ev.bind (toStmt l hl) (Ev.bind (toInt c bc) (Ev.bind hs (Ev.bind (toStmt l hl) (Ev.bind (toInt c bc) (Ev.bind hi (Ev.bind (eqSame o ho) (ev_if rfl ?_)))))))
  refine Ev.step (fun k => by rw [laws_FnExactNeededFor.j0]) ?_
  refine ev_else (ne_self ok) (Ev.bind (toStmt l hl) (Ev.bind (eqStmtSame _ hc) (ev_if rfl (Ev.bind (toInt c bc) (Ev.bind (eqSame c bc) (ev_if rfl (Ev.bind ht (Ev.bind (V.mark c (1 + 4 * ((l.map cv).length : Int)) bc (by omega)) (ev_else (by show ¬ (1 + 4 * ((l.map cv).length : Int) + (c.length : Int) < 0); omega) (Ev.bind (eqSame o ho) (ev_if rfl ?_)))))))))))
  refine Ev.step (fun k => by rw [laws_FnExactNeededFor.j1]) ?_
  refine ev_else (ne_self ok) (Ev.bind (V.mark o 1 ho (by omega)) (Ev.bind (V.held o.length 1 ho (by omega)) (ev_else (by show ¬ (1 + (o.length : Int) < 0); omega) (ev_if rfl (Ev.bind (toStmt l hl) (Ev.bind (toInt c bc) (Ev.bind hi (Ev.bind (eqSame o ho) (ev_if rfl ?_)))))))))
  refine Ev.step (fun k => by rw [laws_FnExactNeededFor.j2]) ?_
  exact ev_else (ne_self ok) (Ev.bind (V.held o.length 1 ho (by omega)) (ev_else (by show ¬ (1 + (o.length : Int) < 0); omega) (ev_if rfl (Ev.now _))))

end Go.Proofs.Yteknfebehafbdaa.Pure
