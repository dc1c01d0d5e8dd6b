/- For all arguments the law FnValueNumbers answers true. No condition. -/
import Derived.Test.YteknfebehafbdaaK7
import Derived.Test.YteknfebehafbdaaV0
import Derived.Test.YteknfebehafbdaaVC
import Derived.Test.YteknfebehafbdaaVO
import Derived.Test.YteknfebehafbdaaVS
import Derived.Test.YteknfebehafbdaaVX
import Derived.Test.YteknfebehafbdaaVB
import Derived.Test.YteknfebehafbdaaVA
namespace Go.Proofs.Yteknfebehafbdaa.Pure
open Go.RowKit Go.Proofs.Yteknfebehafbdaa.K Go.Proofs.Yteknfebehafbdaa.V Go.Proofs.Yteknfebehafbdaa.Bx Go.Proofs.YteknfebehafbdaaW.PrintWords Go.Proofs.YteknfebehafbdaaW.PrintLast
set_option linter.unusedVariables false

theorem nodup_at {D : List (Int × Int × Int)} (hD : D.Nodup) {i j : Nat} {k : Int × Int × Int} (h1 : D[i]? = some k) (h2 : D[j]? = some k) : i = j := by
  have hp := List.pairwise_iff_getElem.mp hD
  obtain ⟨hi, e1⟩ := List.getElem?_eq_some_iff.mp h1
  obtain ⟨hj, e2⟩ := List.getElem?_eq_some_iff.mp h2
  rcases Nat.lt_trichotomy i j with h | h | h
  · exact absurd (e1.trans e2.symm) (hp i j hi hj h)
  · exact h
  · exact absurd (e2.trans e1.symm) (hp j i hj hi h)
/-- The key and the number of the k-th statement. -/
def ky (l : List S58) (k : Nat) : Int × Int × Int := vkey (vn l k).1 (rd_T58 l (k : Int))
def nm (l : List S58) (k : Nat) : Int := 32 + ((vn l k).2.1.idxOf (ky l k) : Int)
theorem vn_V (l : List S58) (x : Nat) : (vn l (x + 1)).1 = (vn l x).1.set (rd_T58 l (x : Int)).f1.toNat (nm l x) := rfl
theorem vn_D (l : List S58) (x : Nat) : (vn l (x + 1)).2.1 = if ky l x ∈ (vn l x).2.1 then (vn l x).2.1 else (vn l x).2.1 ++ [ky l x] := rfl
theorem vn_O (l : List S58) : ∀ x, (vn l x).2.2 = (List.range x).map (nm l)
  | 0 => rfl
  | x + 1 => by
    rw [← range_end, ← vn_O l x]; rfl
theorem D_grows (l : List S58) (x : Nat) : (vn l x).2.1.length ≤ (vn l (x + 1)).2.1.length := by
  rw [vn_D]
  split
  · omega
  · rw [List.length_append]; omega
theorem nm_lt (l : List S58) (x : Nat) : 32 ≤ nm l x ∧ nm l x < 32 + ((vn l (x + 1)).2.1.length : Int) ∧ nm l x ≤ 32 + ((vn l x).2.1.length : Int) := by
  unfold nm
  rw [vn_D]
  have h1 : (vn l x).2.1.idxOf (ky l x) ≤ (vn l x).2.1.length := List.idxOf_le_length
  by_cases h : ky l x ∈ (vn l x).2.1
  · rw [if_pos h]
    have := List.idxOf_lt_length_of_mem h
    omega
  · rw [if_neg h, List.length_append, List.idxOf_eq_length h]
    have : [ky l x].length = 1 := rfl
    omega
/-- The numbers rise by one where a new one is given. -/
theorem next_nm (l : List S58) (x : Nat) : (if nm l x = 32 + ((vn l x).2.1.length : Int) then 32 + ((vn l x).2.1.length : Int) + 1 else 32 + ((vn l x).2.1.length : Int)) = 32 + ((vn l (x + 1)).2.1.length : Int) := by
  unfold nm
  rw [vn_D]
  by_cases h : ky l x ∈ (vn l x).2.1
  · have := List.idxOf_lt_length_of_mem h
    rw [if_neg (by omega), if_pos h]
  · rw [List.idxOf_eq_length h, if_pos rfl, if_neg h, List.length_append]
    have : [ky l x].length = 1 := rfl
    omega
theorem comI_Comm {op : Int} (ho : OpOk op) (h : comI op = true) : Comm op := by
  unfold comI at h
  exact of_decide_eq_true h
theorem rd_app {A B : List Int} {m : Int} (h0 : 0 ≤ m) (h1 : m < (A.length : Int)) : rd (A ++ B) m = rd A m := by
  unfold rd
  rw [List.getD_eq_getElem?_getD, List.getD_eq_getElem?_getD, List.getElem?_append_left (by omega)]
theorem rd_last (A : List Int) (v : Int) : rd (A ++ [v]) (A.length : Int) = v := by
  unfold rd
  rw [Int.toNat_natCast, List.getD_eq_getElem?_getD, List.getElem?_append_right (Nat.le_refl _), Nat.sub_self]; rfl
/-- The words that the numbers stand for. -/
def wl (b : Int) (l : List S58) (c : List Int) : Nat → List Int
  | 0 => c
  | x + 1 => if ky l x ∈ (vn l x).2.1 then wl b l c x else wl b l c x ++ [res (ky l x).1 b (rd (wl b l c x) (ky l x).2.1) (rd (wl b l c x) (ky l x).2.2)]
/-- The word that the k-th statement writes. -/
def wd (b : Int) (l : List S58) (c : List Int) (k : Nat) : Int := rd (runOf b l c (k + 1)) (rd_T58 l (k : Int)).f1
def Inv (b : Int) (l : List S58) (c : List Int) (x : Nat) : Prop :=
  (wl b l c x).length = 32 + (vn l x).2.1.length ∧
  (∀ j : Nat, j < 32 → 0 ≤ rd (vn l x).1 (j : Int) ∧ rd (vn l x).1 (j : Int) < 32 + ((vn l x).2.1.length : Int)) ∧
  (∀ j : Nat, j < 32 → rd (runOf b l c x) (j : Int) = rd (wl b l c x) (rd (vn l x).1 (j : Int))) ∧
  (∀ (i : Nat) (k : Int × Int × Int), (vn l x).2.1[i]? = some k → ((0 ≤ k.2.1 ∧ k.2.1 < 32 + ((vn l x).2.1.length : Int)) ∧ 0 ≤ k.2.2 ∧ k.2.2 < 32 + ((vn l x).2.1.length : Int)) ∧ rd (wl b l c x) (32 + (i : Int)) = res k.1 b (rd (wl b l c x) k.2.1) (rd (wl b l c x) k.2.2)) ∧
  Words b (wl b l c x) ∧
  ∀ k : Nat, k < x → nm l k < 32 + ((vn l x).2.1.length : Int) ∧ wd b l c k = rd (wl b l c x) (nm l k)
theorem inv_zero {b : Int} {l : List S58} {c : List Int} (hw : Words b c) (hc : c.length = 32) : Inv b l c 0 := by
  have e : ∀ j : Nat, j < 32 → rd (vn l 0).1 (j : Int) = (j : Int) := fun j hj => by
    show rd ((List.range 32).map fun (j : Nat) => (j : Int)) (j : Int) = _
    rw [rd_map hj]
  refine ⟨?_, ?_, ?_, ?_, hw, fun k hk => by omega⟩
  · show c.length = 32 + ([] : List (Int × Int × Int)).length
    rw [hc]; rfl
  · intro j hj
    rw [e j hj]
    show _ ∧ (j : Int) < 32 + ((0 : Nat) : Int)
    omega
  · intro j hj
    rw [e j hj]; rfl
  · intro i k h
    exact absurd h (by show ¬ ([] : List (Int × Int × Int))[i]? = some k; simp)
theorem rd_nn {A : List Int} {m : Int} (h : 0 ≤ m) : rd A m = rd A ((m.toNat : Nat) : Int) := by rw [Int.toNat_of_nonneg h]
theorem inv_step {b : Int} {l : List S58} {c : List Int} (hv : cOk l = true) (hb : Bits b) (hc : c.length = 32) {x : Nat} (hx : x < l.length) (h : Inv b l c x) : Inv b l c (x + 1) := by
  obtain ⟨h1, h2, h3, h4, h5, h6⟩ := h
  obtain ⟨hop, ⟨d0, d1⟩, ⟨a0, a1⟩, b0, b1⟩ := cOk_at hv hx
  have hok := vn_ok (show vOk l = true from hv) x (by omega)
  have hn32 := hok.n32
  -- what is written
  have vA := h2 _ (by omega : (rd_T58 l (x : Int)).f2.toNat < 32)
  have vB := h2 _ (by omega : (rd_T58 l (x : Int)).f3.toNat < 32)
  have rA := h3 _ (by omega : (rd_T58 l (x : Int)).f2.toNat < 32)
  have rB := h3 _ (by omega : (rd_T58 l (x : Int)).f3.toNat < 32)
  rw [← rd_nn a0] at vA rA
  rw [← rd_nn b0] at vB rB
  rw [← rd_nn a0] at rA
  rw [← rd_nn b0] at rB
  have wA : Word b (rd (wl b l c x) (rd (vn l x).1 (rd_T58 l (x : Int)).f2)) := words_rd h5 vA.1 (by rw [h1]; omega)
  have wB : Word b (rd (wl b l c x) (rd (vn l x).1 (rd_T58 l (x : Int)).f3)) := words_rd h5 vB.1 (by rw [h1]; omega)
  have hkey : ((0 ≤ (ky l x).2.1 ∧ (ky l x).2.1 < 32 + ((vn l x).2.1.length : Int)) ∧ 0 ≤ (ky l x).2.2 ∧ (ky l x).2.2 < 32 + ((vn l x).2.1.length : Int)) ∧ res (rd_T58 l (x : Int)).f0 b (rd (runOf b l c x) (rd_T58 l (x : Int)).f2) (rd (runOf b l c x) (rd_T58 l (x : Int)).f3) = res (ky l x).1 b (rd (wl b l c x) (ky l x).2.1) (rd (wl b l c x) (ky l x).2.2) := by
    rw [rA, rB]
    unfold ky vkey
    cases hcom : comI (rd_T58 l (x : Int)).f0 with
    | false => rw [if_neg (by decide)]; exact ⟨⟨vA, vB⟩, rfl⟩
    | true =>
      rw [if_pos rfl]
      show ((0 ≤ mn _ _ ∧ mn _ _ < _) ∧ 0 ≤ mx _ _ ∧ mx _ _ < _) ∧ _ = res _ b (rd _ (mn _ _)) (rd _ (mx _ _))
      by_cases hs : rd (vn l x).1 (rd_T58 l (x : Int)).f3 < rd (vn l x).1 (rd_T58 l (x : Int)).f2
      · have e1 : mn (rd (vn l x).1 (rd_T58 l (x : Int)).f2) (rd (vn l x).1 (rd_T58 l (x : Int)).f3) = rd (vn l x).1 (rd_T58 l (x : Int)).f3 := by unfold mn; rw [if_pos hs]
        have e2 : mx (rd (vn l x).1 (rd_T58 l (x : Int)).f2) (rd (vn l x).1 (rd_T58 l (x : Int)).f3) = rd (vn l x).1 (rd_T58 l (x : Int)).f2 := by unfold mx; rw [if_neg (by omega)]
        rw [e1, e2]
        exact ⟨⟨vB, vA⟩, res_comm (comI_Comm hop hcom) wA wB⟩
      · have e1 : mn (rd (vn l x).1 (rd_T58 l (x : Int)).f2) (rd (vn l x).1 (rd_T58 l (x : Int)).f3) = rd (vn l x).1 (rd_T58 l (x : Int)).f2 := by unfold mn; rw [if_neg hs]
        have e2 : mx (rd (vn l x).1 (rd_T58 l (x : Int)).f2) (rd (vn l x).1 (rd_T58 l (x : Int)).f3) = rd (vn l x).1 (rd_T58 l (x : Int)).f3 := by
          unfold mx
          split <;> omega
        rw [e1, e2]
        exact ⟨⟨vA, vB⟩, rfl⟩
  obtain ⟨kb, hres⟩ := hkey
  have wres : Word b (res (ky l x).1 b (rd (wl b l c x) (ky l x).2.1) (rd (wl b l c x) (ky l x).2.2)) := res_word (words_rd h5 kb.1.1 (by rw [h1]; omega)) (words_rd h5 kb.2.1 (by rw [h1]; omega))
  -- the words behind it
  have hext : (wl b l c (x + 1)).length = 32 + (vn l (x + 1)).2.1.length ∧ (∀ m : Int, 0 ≤ m → m < 32 + ((vn l x).2.1.length : Int) → rd (wl b l c (x + 1)) m = rd (wl b l c x) m) ∧ rd (wl b l c (x + 1)) (nm l x) = res (ky l x).1 b (rd (wl b l c x) (ky l x).2.1) (rd (wl b l c x) (ky l x).2.2) ∧ Words b (wl b l c (x + 1)) ∧ ∀ (i : Nat) (k : Int × Int × Int), (vn l (x + 1)).2.1[i]? = some k → (vn l x).2.1[i]? = some k ∨ (k = ky l x ∧ 32 + (i : Int) = nm l x) := by
    by_cases hm : ky l x ∈ (vn l x).2.1
    · have e1 : wl b l c (x + 1) = wl b l c x := by show (if _ then _ else _) = _; rw [if_pos hm]
      have e2 : (vn l (x + 1)).2.1 = (vn l x).2.1 := by rw [vn_D, if_pos hm]
      rw [e1, e2]
      refine ⟨h1, fun _ _ _ => rfl, ?_, h5, fun i k hi => Or.inl hi⟩
      have hi : (vn l x).2.1[(vn l x).2.1.idxOf (ky l x)]? = some (ky l x) := List.getElem?_eq_some_iff.mpr ⟨List.idxOf_lt_length_of_mem hm, List.getElem_idxOf _⟩
      exact (h4 _ _ hi).2
    · have e1 : wl b l c (x + 1) = wl b l c x ++ [res (ky l x).1 b (rd (wl b l c x) (ky l x).2.1) (rd (wl b l c x) (ky l x).2.2)] := by show (if _ then _ else _) = _; rw [if_neg hm]
      have e2 : (vn l (x + 1)).2.1 = (vn l x).2.1 ++ [ky l x] := by rw [vn_D, if_neg hm]
      have e3 : nm l x = ((wl b l c x).length : Int) := by unfold nm; rw [List.idxOf_eq_length hm, h1]; omega
      rw [e1, e2, e3]
      refine ⟨by rw [List.length_append, List.length_append, h1]; show _ + 1 = 32 + (_ + 1); omega, fun m m0 m1 => rd_app m0 (by rw [h1]; omega), rd_last _ _, ?_, fun i k hi => ?_⟩
      · intro v hv
        rcases List.mem_append.mp hv with h | h
        · exact h5 v h
        · rw [List.mem_singleton.mp h]; exact wres
      · by_cases h : i < (vn l x).2.1.length
        · rw [List.getElem?_append_left h] at hi
          exact Or.inl hi
        · have hl := (List.getElem?_eq_some_iff.mp hi).1
          rw [List.length_append] at hl
          have e4 : [ky l x].length = 1 := rfl
          have e5 : i = (vn l x).2.1.length := by omega
          rw [e5, List.getElem?_append_right (Nat.le_refl _), Nat.sub_self] at hi
          exact Or.inr ⟨(Option.some.inj hi).symm, by rw [h1, e5]; omega⟩
  obtain ⟨g1, g2, g3, g4, g5⟩ := hext
  have hg := D_grows l x
  have hnm := nm_lt l x
  have hrun : runOf b l c (x + 1) = (runOf b l c x).set (rd_T58 l (x : Int)).f1.toNat (res (ky l x).1 b (rd (wl b l c x) (ky l x).2.1) (rd (wl b l c x) (ky l x).2.2)) := by rw [← hres]; rfl
  have hrl := runOf_len b l c x
  refine ⟨g1, ?_, ?_, ?_, g4, ?_⟩
  · intro j hj
    rw [vn_V]
    by_cases e : j = (rd_T58 l (x : Int)).f1.toNat
    · rw [e, rdc_same (by omega)]
      omega
    · rw [rdc_other e]
      have := h2 j hj
      omega
  · intro j hj
    rw [vn_V, hrun]
    by_cases e : j = (rd_T58 l (x : Int)).f1.toNat
    · rw [e, rdc_same (by omega), rdc_same (by omega), g3]
    · rw [rdc_other e, rdc_other e, h3 j hj, g2 _ (h2 j hj).1 (h2 j hj).2]
  · intro i k hi
    rcases g5 i k hi with h | ⟨rfl, h⟩
    · obtain ⟨⟨q1, q2⟩, q3⟩ := h4 i k h
      have hi2 := (List.getElem?_eq_some_iff.mp h).1
      refine ⟨⟨⟨q1.1, by omega⟩, q2.1, by omega⟩, ?_⟩
      rw [g2 _ (by omega) (by omega), g2 _ q1.1 q1.2, g2 _ q2.1 q2.2]
      exact q3
    · refine ⟨⟨⟨kb.1.1, by omega⟩, kb.2.1, by omega⟩, ?_⟩
      rw [h, g3, g2 _ kb.1.1 kb.1.2, g2 _ kb.2.1 kb.2.2]
  · intro k hk
    by_cases e : k = x
    · subst e
      refine ⟨hnm.2.1, ?_⟩
      unfold wd
      rw [g3, hrun, rd_nn d0, rdc_same (by omega)]
    · obtain ⟨q1, q2⟩ := h6 k (by omega)
      have := (nm_lt l k).1
      refine ⟨by omega, ?_⟩
      rw [g2 _ (by omega) q1]
      exact q2
theorem inv_all {b : Int} {l : List S58} {c : List Int} (hv : cOk l = true) (hb : Bits b) (hw : Words b c) (hc : c.length = 32) : ∀ x, x ≤ l.length → Inv b l c x
  | 0, _ => inv_zero hw hc
  | x + 1, h => inv_step hv hb hc (by omega) (inv_all hv hb hw hc x (by omega))
/-- Twice the same statement, that turns none of the cells that it reads: the same number. -/
theorem twice {l : List S58} {x : Nat} (hv : cOk l = true) (hx : x + 1 < l.length) (he : rd_T58 l (x : Int) = rd_T58 l ((x + 1 : Nat) : Int)) (h2 : (rd_T58 l (x : Int)).f1 ≠ (rd_T58 l (x : Int)).f2) (h3 : (rd_T58 l (x : Int)).f1 ≠ (rd_T58 l (x : Int)).f3) : nm l x = nm l (x + 1) := by
  obtain ⟨hop, ⟨d0, d1⟩, ⟨a0, a1⟩, b0, b1⟩ := cOk_at hv (by omega : x < l.length)
  have hk : ky l (x + 1) = ky l x := by
    unfold ky
    rw [← he]
    unfold vkey
    have e2 : rd (vn l (x + 1)).1 (rd_T58 l (x : Int)).f2 = rd (vn l x).1 (rd_T58 l (x : Int)).f2 := by
      rw [vn_V, rd_nn a0, rdc_other (by omega), ← rd_nn a0]
    have e3 : rd (vn l (x + 1)).1 (rd_T58 l (x : Int)).f3 = rd (vn l x).1 (rd_T58 l (x : Int)).f3 := by
      rw [vn_V, rd_nn b0, rdc_other (by omega), ← rd_nn b0]
    rw [e2, e3]
  unfold nm
  rw [hk, vn_D]
  by_cases hm : ky l x ∈ (vn l x).2.1
  · rw [if_pos hm]
  · rw [if_neg hm, List.idxOf_eq_length hm, List.idxOf_append, if_neg hm]
    have : [ky l x].idxOf (ky l x) = 0 := by simp
    rw [this]; omega
theorem lawVN {b : Int} {l : List S58} {c : List Int} (hv : cOk l = true) (hb : Bits b) (hw : Words b c) (hc : c.length = 32) : ∀ d x : Nat, x + d = l.length → Ev (fun k => laws_FnValueNumbers.l0 k l b (runOf b l c x) (vn l l.length).2.2 ((List.range x).map (wd b l c)) (32 + ((vn l x).2.1.length : Int)) (x : Int)) true := by
  have h16 := cOk_len hv
  have hOl : ((List.range l.length).map (nm l)).length = l.length := by simp
  rw [vn_O l l.length]
  intro d
  induction d with
  | zero =>
    intro x hx
    obtain rfl : x = l.length := by omega
    refine ⟨1, fun k hk => ?_⟩
    obtain ⟨k, rfl⟩ : ∃ m, k = m + 1 := ⟨k - 1, by omega⟩
    simp only [laws_FnValueNumbers.l0]
    rw [if_neg (by omega)]
  | succ d ih =>
    intro x hx
    have hxl : x < l.length := by omega
    have hn := ih (x + 1) (by omega)
    obtain ⟨hop, ⟨d0, d1⟩, ⟨a0, a1⟩, b0, b1⟩ := cOk_at hv hxl
    have hs : cOk [rd_T58 l (x : Int)] = true := cOk_of (by show 1 ≤ 16; omega) (fun y hy => by rw [List.mem_singleton.mp hy]; exact ⟨hop, ⟨d0, d1⟩, ⟨a0, a1⟩, b0, b1⟩)
    have hcx := runOf_len b l c x
    have hcx1 := runOf_len b l c (x + 1)
    have hrun : Ev (fun k => impl_RunCode.f k b [rd_T58 l (x : Int)] (runOf b l c x)) (runOf b l c (x + 1), true) := iRunCode hs hb (runOf_words hv hw hc x (by omega)) (by rw [hcx, hc])
    have hcut : (l.take (x + 1)).drop x = [rd_T58 l (x : Int)] := by
      rw [takeS hxl, List.drop_append_of_le_length (by rw [List.length_take]; omega), List.drop_of_length_le (by rw [List.length_take]; omega)]; rfl
    have hOx : rd ((List.range l.length).map (nm l)) (x : Int) = nm l x := rd_map hxl
    have hnm := nm_lt l x
    have hDl := (vn_ok (show vOk l = true from hv) (x + 1) (by omega)).len
    have hinv := inv_all hv hb hw hc (x + 1) (by omega)
    obtain ⟨_, _, _, _, _, h6⟩ := hinv
    -- the comparison with the earlier ones
    have inner : ∀ e k : Nat, k + e = x → Ev (fun f => laws_FnValueNumbers.l1 f l b ((List.range l.length).map (nm l)) ((List.range (x + 1)).map (wd b l c)) (32 + ((vn l (x + 1)).2.1.length : Int)) (x : Int) (runOf b l c (x + 1)) (k : Int)) true := by
      intro e
      induction e with
      | zero =>
        intro k hk
        obtain rfl : k = x := by omega
        refine Ev.step (fun f => ?_) hn
        simp only [laws_FnValueNumbers.l1]
        rw [if_neg (by omega), w1 (by omega)]
      | succ e ihe =>
        intro k hk
        have hkx : k < x := by omega
        have ih' := ihe (k + 1) (by omega)
        have hOk : rd ((List.range l.length).map (nm l)) (k : Int) = nm l k := rd_map (by omega)
        have hwk : rd ((List.range (x + 1)).map (wd b l c)) (k : Int) = wd b l c k := rd_map (by omega)
        have hwx : rd ((List.range (x + 1)).map (wd b l c)) (x : Int) = wd b l c x := rd_map (by omega)
        have hwl : ((List.range (x + 1)).map (wd b l c)).length = x + 1 := by simp
        refine Ev.step (fun f => ?_) ih'
        simp only [laws_FnValueNumbers.l1]
        rw [hOl, hwl, hOk, hOx, hwk, hwx, if_pos (by omega), if_pos (by omega), if_pos (by omega), if_pos (by omega), if_pos (by omega), w1 (i := k) (by omega)]
        by_cases hn2 : nm l k = nm l x
        · have e1 := (h6 k (by omega)).2
          have e2 := (h6 x (by omega)).2
          rw [hn2, ← e2] at e1
          rw [if_pos hn2, if_pos (by omega), if_pos (by omega), if_pos e1]
        · rw [if_neg hn2, if_pos (by omega), if_pos (by omega)]
          by_cases hst : ((rd_T58 l (k : Int)).f0 == (rd_T58 l (x : Int)).f0 && ((rd_T58 l (k : Int)).f1 == (rd_T58 l (x : Int)).f1 && ((rd_T58 l (k : Int)).f2 == (rd_T58 l (x : Int)).f2 && (rd_T58 l (k : Int)).f3 == (rd_T58 l (x : Int)).f3))) = true
          · rw [if_pos hst]
            by_cases hlast : (k : Int) = wrap64 ((x : Int) - 1)
            · rw [if_pos hlast]
              have hk1 : k + 1 = x := by
                rw [w_small (by omega)] at hlast
                omega
              by_cases h2 : (rd_T58 l (k : Int)).f1 = (rd_T58 l (k : Int)).f2
              · rw [if_pos h2]
              · rw [if_neg h2]
                by_cases h3 : (rd_T58 l (k : Int)).f1 = (rd_T58 l (k : Int)).f3
                · rw [if_pos h3]
                · exfalso
                  subst hk1
                  simp only [Bool.and_eq_true, beq_iff_eq] at hst
                  obtain ⟨s0, s1, s2, s3⟩ := hst
                  refine hn2 (twice hv hxl ?_ h2 h3)
                  generalize rd_T58 l (k : Int) = A at s0 s1 s2 s3 ⊢
                  generalize rd_T58 l ((k + 1 : Nat) : Int) = B at s0 s1 s2 s3 ⊢
                  obtain ⟨_, _, _, _⟩ := A
                  obtain ⟨_, _, _, _⟩ := B
                  simp only at s0 s1 s2 s3
                  rw [s0, s1, s2, s3]
            · rw [if_neg hlast]
          · rw [if_neg hst]
    have hj3 : Ev (fun f => laws_FnValueNumbers.j3 f l b ((List.range l.length).map (nm l)) ((List.range x).map (wd b l c)) (32 + ((vn l (x + 1)).2.1.length : Int)) (x : Int) (runOf b l c (x + 1))) true := by
      refine Ev.step (fun f => ?_) (inner x 0 (by omega))
      simp only [laws_FnValueNumbers.j3]
      rw [if_pos (by omega), if_pos (by omega), if_pos d0, if_pos (by rw [hcx1, hc]; omega), if_pos (by simp; omega)]
      have e : (List.range x).map (wd b l c) ++ [rd (runOf b l c (x + 1)) (rd_T58 l (x : Int)).f1] = (List.range (x + 1)).map (wd b l c) := range_end (F := wd b l c) x
      rw [e]
      rfl
    have hj2 : Ev (fun f => laws_FnValueNumbers.j2 f l b ((List.range l.length).map (nm l)) ((List.range x).map (wd b l c)) (32 + ((vn l x).2.1.length : Int)) (x : Int) (runOf b l c (x + 1)) false) true := by
      have hnx := next_nm l x
      refine Ev.step (fun f => ?_) hj3
      simp only [laws_FnValueNumbers.j2]
      rw [if_neg (by decide), if_pos (by omega), hOl, if_pos (by omega), hOx]
      have hg := D_grows l x
      by_cases he : nm l x = 32 + ((vn l x).2.1.length : Int)
      · rw [if_pos he] at hnx
        rw [if_pos he, w_small (by omega), hnx]
      · rw [if_neg he] at hnx
        rw [if_neg he, hnx]
    refine Ev.step (f := fun f => (impl_RunCode.f f b [rd_T58 l (x : Int)] (runOf b l c x)).bind fun bt => (if bt.2 = true then (if (bt.1.length : Int) = 32 then (if (x : Int) < (l.length : Int) then (laws_FnValueNumbers.j2 f l b ((List.range l.length).map (nm l)) ((List.range x).map (wd b l c)) (32 + ((vn l x).2.1.length : Int)) (x : Int) bt.1 (decide (nm l x > 32 + ((vn l x).2.1.length : Int)))) else none) else laws_FnValueNumbers.j2 f l b ((List.range l.length).map (nm l)) ((List.range x).map (wd b l c)) (32 + ((vn l x).2.1.length : Int)) (x : Int) bt.1 true) else laws_FnValueNumbers.j2 f l b ((List.range l.length).map (nm l)) ((List.range x).map (wd b l c)) (32 + ((vn l x).2.1.length : Int)) (x : Int) bt.1 true)) (fun f => ?_) ?_
    · simp only [laws_FnValueNumbers.l0]
      rw [hOl, hOx, if_pos (by omega), if_pos (by omega), w1 (by omega), if_pos (by omega), if_pos (by omega), Int.toNat_natCast, Int.toNat_natCast, hcut]
    · refine Ev.bind hrun (ev_if rfl (ev_if (by show ((runOf b l c (x + 1)).length : Int) = 32; rw [hcx1, hc]; rfl) (ev_if (by omega) ?_)))
      rw [decide_eq_false (by omega : ¬ nm l x > 32 + ((vn l x).2.1.length : Int))]
      exact hj2
theorem FnValueNumbers : laws_FnValueNumbers.Pure := by
  intro c0 c1 _ _ h0 _ _ h1
  refine Ev.rounds (g := fun k => laws_FnValueNumbers.f k c0 c1) ?_
  have hs0 := bytes_of h0
  have hs1 := bytes_of h1
  unfold laws_FnValueNumbers.f laws_b10Long.f
  by_cases hl0 : (c0.length : Int) > 1048576
  · rw [if_pos hl0]
    exact ev_some (ev_if rfl (Ev.now _))
  rw [if_neg hl0]
  by_cases hl1 : (c1.length : Int) > 1048576
  · rw [decide_eq_true hl1]
    exact ev_some (ev_if rfl (Ev.now _))
  rw [decide_eq_false hl1]
  refine ev_some (ev_else (by decide) ?_)
  obtain ⟨l, hE, hv⟩ := drawCode hs0
  obtain ⟨b, eb, hb⟩ := drawBits hs1
  obtain ⟨c, hEc, hc, hw⟩ := drawCells hs1 hb
  refine Ev.bind hE (ev_eq eb (Ev.bind hEc ?_))
  have hi : Ev (fun k => impl_ValueNumbers.f k l) ((vn l l.length).2.2, true) := by
    unfold impl_ValueNumbers.f
    rw [if_pos (show vOk l = true from hv)]
    exact Ev.now _
  have hO := (vn_ok (show vOk l = true from hv) l.length (Nat.le_refl _)).out
  refine Ev.bind hi (ev_if rfl ?_)
  have e : (((vn l l.length).2.2.length : Int) != (l.length : Int)) = false := by rw [hO]; exact bne_self_eq_false _
  show Ev (fun k => laws_FnValueNumbers.j0 k l b c (vn l l.length).2.2 (((vn l l.length).2.2.length : Int) != (l.length : Int))) true
  rw [e]
  refine Ev.step (fun k => by rw [laws_FnValueNumbers.j0, if_neg (by decide)]) ?_
  have := lawVN hv hb hw hc l.length 0 (by omega)
  exact this

end Go.Proofs.Yteknfebehafbdaa.Pure
