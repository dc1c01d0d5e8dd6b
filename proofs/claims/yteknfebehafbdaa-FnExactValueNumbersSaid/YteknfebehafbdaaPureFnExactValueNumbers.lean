/- For all arguments the law FnExactValueNumbers answers true. No condition. -/
import Derived.Test.YteknfebehafbdaaK7
import Derived.Test.YteknfebehafbdaaV0
import Derived.Test.YteknfebehafbdaaVC
import Derived.Test.YteknfebehafbdaaVO
import Derived.Test.YteknfebehafbdaaVE
import Derived.Test.YteknfebehafbdaaVM
import Derived.Test.YteknfebehafbdaaVT
namespace Go.Proofs.Yteknfebehafbdaa.Pure
open Go.RowKit Go.Proofs.Yteknfebehafbdaa.K Go.Proofs.Yteknfebehafbdaa.V Go.Proofs.Yteknfebehafbdaa.Bx Go.Proofs.YteknfebehafbdaaW.PrintWords Go.Proofs.YteknfebehafbdaaW.PrintLast
set_option linter.unusedVariables false

/-- The reference's list of done statements. -/
def dst (k : Int × Int × Int) (i : Nat) : S58 := ⟨k.1, 32 + (i : Int), k.2.1, k.2.2⟩
theorem dst_f0 (k : Int × Int × Int) (i : Nat) : (dst k i).f0 = k.1 := rfl
theorem dst_f2 (k : Int × Int × Int) (i : Nat) : (dst k i).f2 = k.2.1 := rfl
theorem dst_f3 (k : Int × Int × Int) (i : Nat) : (dst k i).f3 = k.2.2 := rfl
def dn (D : List (Int × Int × Int)) : List S58 := (List.range D.length).map fun i => dst (D.getD i (0, 0, 0)) i
theorem dn_len (D : List (Int × Int × Int)) : (dn D).length = D.length := by unfold dn; simp
theorem dn_rd {D : List (Int × Int × Int)} {i : Nat} {k : Int × Int × Int} (h : D[i]? = some k) : rd_T58 (dn D) (i : Int) = dst k i := by
  have hi := (List.getElem?_eq_some_iff.mp h).1
  rw [rd58, List.getD_eq_getElem?_getD]
  unfold dn
  rw [List.getElem?_map, List.getElem?_range hi, Option.map_some, Option.getD_some, List.getD_eq_getElem?_getD, h, Option.getD_some]
theorem dn_add (D : List (Int × Int × Int)) (k : Int × Int × Int) : dn D ++ [dst k D.length] = dn (D ++ [k]) := by
  unfold dn
  rw [List.length_append, show [k].length = 1 from rfl, List.range_succ, List.map_append, List.map_singleton]
  congr 1
  · apply List.map_congr_left
    intro i hi
    have hi := List.mem_range.mp hi
    rw [List.getD_eq_getElem?_getD, List.getD_eq_getElem?_getD, List.getElem?_append_left hi]
  · rw [List.getD_eq_getElem?_getD, List.getElem?_append_right (Nat.le_refl _), Nat.sub_self]; rfl
theorem nodup_at {D : List (Int × Int × Int)} (hD : D.Nodup) {i j : Nat} {k : Int × Int × Int} (h1 : D[i]? = some k) (h2 : D[j]? = some k) : i = j := by
  have hp := List.pairwise_iff_getElem.mp hD
  obtain ⟨hi, e1⟩ := List.getElem?_eq_some_iff.mp h1
  obtain ⟨hj, e2⟩ := List.getElem?_eq_some_iff.mp h2
  rcases Nat.lt_trichotomy i j with h | h | h
  · exact absurd (e1.trans e2.symm) (hp i j hi hj h)
  · exact h
  · exact absurd (e2.trans e1.symm) (hp j i hj hi h)
theorem vn_hit {l : List S58} {x j : Nat} (hD : (vn l x).2.1.Nodup) (h : (vn l x).2.1[j]? = some (vkey (vn l x).1 (rd_T58 l (x : Int)))) : vn l (x + 1) = ((vn l x).1.set (rd_T58 l (x : Int)).f1.toNat (32 + (j : Int)), (vn l x).2.1, (vn l x).2.2 ++ [32 + (j : Int)]) := by
  have hm := List.mem_of_getElem? h
  have hi : (vn l x).2.1.idxOf (vkey (vn l x).1 (rd_T58 l (x : Int))) = j := nodup_at hD (List.getElem?_eq_some_iff.mpr ⟨List.idxOf_lt_length_of_mem hm, List.getElem_idxOf _⟩) h
  simp only [vn]
  rw [if_pos hm, hi]
theorem vn_miss {l : List S58} {x : Nat} (h : vkey (vn l x).1 (rd_T58 l (x : Int)) ∉ (vn l x).2.1) : vn l (x + 1) = ((vn l x).1.set (rd_T58 l (x : Int)).f1.toNat (32 + ((vn l x).2.1.length : Int)), (vn l x).2.1 ++ [vkey (vn l x).1 (rd_T58 l (x : Int))], (vn l x).2.2 ++ [32 + ((vn l x).2.1.length : Int)]) := by
  simp only [vn]
  rw [if_neg h, List.idxOf_eq_length h]
theorem sCom {op : Int} (h : OpOk op) : spec_l01Commutes.f op = some (comI op) := by
  obtain ⟨h0, h1⟩ := h
  have key : ∀ n : Nat, n < 18 → spec_l01Commutes.f (n : Int) = some (comI (n : Int)) := by decide
  obtain ⟨n, rfl⟩ := Int.eq_ofNat_of_zero_le h0
  exact key n (by omega)
theorem sVN (l : List S58) (hl : l.length ≤ 1048576) (hv : cOk l = true) : Ev (fun k => spec_ValueNumbers.f k l) ((vn l l.length).2.2, true) := by
  have h16 := cOk_len hv
  have rounds : ∀ d x : Nat, x + d = l.length → Ev (fun k => spec_ValueNumbers.l1 k l (vn l x).1 (vn l x).2.2 (dn (vn l x).2.1) (x : Int)) ((vn l l.length).2.2, true) := by
    intro d
    induction d with
    | zero =>
      intro x hx
      obtain rfl : x = l.length := by omega
      refine ⟨1, fun k hk => ?_⟩
      obtain ⟨k, rfl⟩ : ∃ m, k = m + 1 := ⟨k - 1, by omega⟩
      simp only [spec_ValueNumbers.l1]
      rw [if_neg (by omega)]
    | succ d ih =>
      intro x hx
      have hxl : x < l.length := by omega
      have ih' := ih (x + 1) (by omega)
      have hok := vn_ok (show vOk l = true from hv) x (by omega)
      obtain ⟨hop, ⟨d0, d1⟩, ⟨a0, a1⟩, b0, b1⟩ := cOk_at hv hxl
      have hn32 := hok.n32
      have hDl := hok.len
      have hOl := hok.out
      have hnd := hok.nd
      -- the search
      have look : ∀ g j : Nat, j + g = (vn l x).2.1.length → (∀ i : Nat, i < j → (vn l x).2.1[i]? ≠ some (vkey (vn l x).1 (rd_T58 l (x : Int)))) → Ev (fun k => spec_ValueNumbers.l2 k l (vn l x).1 (vn l x).2.2 (dn (vn l x).2.1) (x : Int) (j : Int) (vkey (vn l x).1 (rd_T58 l (x : Int))).1 0 (vkey (vn l x).1 (rd_T58 l (x : Int))).2.1 (vkey (vn l x).1 (rd_T58 l (x : Int))).2.2) ((vn l l.length).2.2, true) := by
        intro g
        induction g with
        | zero =>
          intro j hj hno
          have hm : vkey (vn l x).1 (rd_T58 l (x : Int)) ∉ (vn l x).2.1 := by
            intro hm
            obtain ⟨i, hi, e⟩ := List.getElem_of_mem hm
            exact hno i (by omega) (List.getElem?_eq_some_iff.mpr ⟨hi, e⟩)
          have hnx := vn_miss hm
          obtain rfl : j = (vn l x).2.1.length := by omega
          rw [hnx] at ih'
          have hw : wrap64 (32 + ((vn l x).2.1.length : Int)) = 32 + ((vn l x).2.1.length : Int) := w_small (by omega)
          have hadd := dn_add (vn l x).2.1 (vkey (vn l x).1 (rd_T58 l (x : Int)))
          have hrd := dn_rd (D := (vn l x).2.1 ++ [vkey (vn l x).1 (rd_T58 l (x : Int))]) (i := (vn l x).2.1.length) (k := vkey (vn l x).1 (rd_T58 l (x : Int))) (by rw [List.getElem?_append_right (Nat.le_refl _), Nat.sub_self]; rfl)
          refine Ev.step (fun k => ?_) ih'
          simp only [spec_ValueNumbers.l2]
          rw [dn_len, if_neg (by omega), if_pos rfl, if_pos (by omega), hw]
          rw [show (⟨(vkey (vn l x).1 (rd_T58 l (x : Int))).1, 32 + ((vn l x).2.1.length : Int), (vkey (vn l x).1 (rd_T58 l (x : Int))).2.1, (vkey (vn l x).1 (rd_T58 l (x : Int))).2.2⟩ : S58) = dst (vkey (vn l x).1 (rd_T58 l (x : Int))) (vn l x).2.1.length from rfl, hadd, Option.bind_some, if_pos (by omega), dn_len, List.length_append, if_pos (by show _ < ((_ + 1 : Nat) : Int); omega), if_pos (by omega), if_pos (by omega), if_pos (by omega), if_pos d0, if_pos (by omega), hrd, w1 (by omega)]
          rfl
        | succ g ihg =>
          intro j hj hno
          have hjl : j < (vn l x).2.1.length := by omega
          obtain ⟨kk, hkk⟩ : ∃ kk, (vn l x).2.1[j]? = some kk := ⟨_, List.getElem?_eq_getElem hjl⟩
          have hrd := dn_rd hkk
          by_cases he : kk = vkey (vn l x).1 (rd_T58 l (x : Int))
          · subst he
            have hnx := vn_hit hnd hkk
            rw [hnx] at ih'
            refine Ev.step (fun k => ?_) ih'
            simp only [spec_ValueNumbers.l2]
            rw [dn_len, if_pos (by omega), if_pos (by omega), hrd, if_pos (dst_f0 _ _), if_pos (dst_f2 _ _), if_pos (dst_f3 _ _), if_neg (by omega), if_pos (by omega), if_pos (by omega), if_pos (by omega), if_pos d0, if_pos (by omega), w1 (by omega)]
            rfl
          · have ih2 := ihg (j + 1) (by omega) (fun i hi => by
              by_cases e : i = j
              · rw [e, hkk]; exact fun h => he (Option.some.inj h)
              · exact hno i (by omega))
            refine Ev.step (fun k => ?_) ih2
            simp only [spec_ValueNumbers.l2]
            rw [dn_len, if_pos (by omega), if_pos (by omega), hrd, w1 (i := j) (by omega)]
            generalize vkey (vn l x).1 (rd_T58 l (x : Int)) = key at he ⊢
            obtain ⟨k1, k2, k3⟩ := kk
            obtain ⟨e1, e2, e3⟩ := key
            show (if k1 = e1 then (if k2 = e2 then (if k3 = e3 then _ else _) else _) else _) = _
            by_cases h1 : k1 = e1
            · rw [if_pos h1]
              by_cases h2 : k2 = e2
              · rw [if_pos h2]
                by_cases h3 : k3 = e3
                · exact absurd (by rw [h1, h2, h3]) he
                · rw [if_neg h3]
              · rw [if_neg h2]
            · rw [if_neg h1]
      have look0 := look (vn l x).2.1.length 0 (by omega) (fun i hi => by omega)
      refine Ev.step (f := fun k => if comI (rd_T58 l (x : Int)).f0 = true then spec_ValueNumbers.j2 k l (vn l x).1 (vn l x).2.2 (dn (vn l x).2.1) (x : Int) (decide (rd (vn l x).1 (rd_T58 l (x : Int)).f3 < rd (vn l x).1 (rd_T58 l (x : Int)).f2)) (rd_T58 l (x : Int)).f0 0 (rd (vn l x).1 (rd_T58 l (x : Int)).f2) (rd (vn l x).1 (rd_T58 l (x : Int)).f3) else spec_ValueNumbers.j2 k l (vn l x).1 (vn l x).2.2 (dn (vn l x).2.1) (x : Int) false (rd_T58 l (x : Int)).f0 0 (rd (vn l x).1 (rd_T58 l (x : Int)).f2) (rd (vn l x).1 (rd_T58 l (x : Int)).f3)) (fun k => ?_) ?_
      · simp only [spec_ValueNumbers.l1]
        rw [if_pos (by omega), if_pos (by omega), if_pos a0, if_pos (by omega), if_pos b0, if_pos (by omega), sCom hop, Option.bind_some]
      · unfold vkey at look0
        cases hc : comI (rd_T58 l (x : Int)).f0 with
        | true =>
          rw [hc, if_pos rfl] at look0
          refine ev_if rfl ?_
          by_cases hs : rd (vn l x).1 (rd_T58 l (x : Int)).f3 < rd (vn l x).1 (rd_T58 l (x : Int)).f2
          · have e1 : mn (rd (vn l x).1 (rd_T58 l (x : Int)).f2) (rd (vn l x).1 (rd_T58 l (x : Int)).f3) = rd (vn l x).1 (rd_T58 l (x : Int)).f3 := by unfold mn; rw [if_pos hs]
            have e2 : mx (rd (vn l x).1 (rd_T58 l (x : Int)).f2) (rd (vn l x).1 (rd_T58 l (x : Int)).f3) = rd (vn l x).1 (rd_T58 l (x : Int)).f2 := by unfold mx; rw [if_neg (by omega)]
            rw [e1, e2] at look0
            rw [decide_eq_true hs]
            exact Ev.step (fun k => by rw [spec_ValueNumbers.j2, if_pos rfl]) (Ev.step (fun k => by rw [spec_ValueNumbers.j3]; rfl) look0)
          · have e1 : mn (rd (vn l x).1 (rd_T58 l (x : Int)).f2) (rd (vn l x).1 (rd_T58 l (x : Int)).f3) = rd (vn l x).1 (rd_T58 l (x : Int)).f2 := by unfold mn; rw [if_neg hs]
            have e2 : mx (rd (vn l x).1 (rd_T58 l (x : Int)).f2) (rd (vn l x).1 (rd_T58 l (x : Int)).f3) = rd (vn l x).1 (rd_T58 l (x : Int)).f3 := by
              unfold mx
              split <;> omega
            rw [e1, e2] at look0
            rw [decide_eq_false hs]
            exact Ev.step (fun k => by rw [spec_ValueNumbers.j2, if_neg (by decide)]) (Ev.step (fun k => by rw [spec_ValueNumbers.j3]; rfl) look0)
        | false =>
          rw [hc, if_neg (by decide)] at look0
          refine ev_else (by decide) ?_
          exact Ev.step (fun k => by rw [spec_ValueNumbers.j2, if_neg (by decide)]) (Ev.step (fun k => by rw [spec_ValueNumbers.j3]; rfl) look0)
  have hstart := rounds l.length 0 (by omega)
  have first : ∀ d i : Nat, i + d = 32 → Ev (fun k => spec_ValueNumbers.l0 k l ((List.range i).map fun (j : Nat) => (j : Int)) (i : Int)) ((vn l l.length).2.2, true) := by
    intro d
    induction d with
    | zero =>
      intro i hi
      obtain rfl : i = 32 := by omega
      refine Ev.step (fun k => ?_) hstart
      simp only [spec_ValueNumbers.l0]
      rw [if_neg (by omega)]
      rfl
    | succ d ih =>
      intro i hi
      refine Ev.step (fun k => ?_) (ih (i + 1) (by omega))
      simp only [spec_ValueNumbers.l0]
      rw [if_pos (by omega), if_pos (by simp; omega), w1 (by omega), range_end (F := fun (j : Nat) => (j : Int))]
  unfold spec_ValueNumbers.f
  refine Ev.bind (sIs l hl) (ev_if hv ?_)
  exact first 32 0 (by omega)
theorem ne_self (b : Bool) : ¬ ((b != b) = true) := by cases b <;> decide
theorem FnExactValueNumbers : ∀ l0 : List S62, l0.length ≤ 4398046511104 → ∃ k, laws_FnExactValueNumbers.f k l0 = some true := by
  intro l hm
  refine Ev.rounds (g := fun k => laws_FnExactValueNumbers.f k l) ?_
  unfold laws_FnExactValueNumbers.f
  refine ev_eq (sz l hm) ?_
  by_cases h : 1048576 < l.length
  · rw [if_pos h]
    exact ev_if (by decide) (Ev.now _)
  rw [if_neg h]
  refine ev_else (by omega) ?_
  have hl : l.length ≤ 1048576 := by omega
  have hc : (l.map cv).length ≤ 1048576 := by rw [List.length_map]; exact hl
  obtain ⟨o, ok, ho, hs, hi⟩ : ∃ (o : List Int) (ok : Bool), o.length ≤ 1048576 ∧ Ev (fun k => spec_ValueNumbers.f k (l.map cv)) (o, ok) ∧ Ev (fun k => impl_ValueNumbers.f k (l.map cv)) (o, ok) := by
    cases hv : cOk (l.map cv) with
    | true =>
      have hok := vn_ok (show vOk (l.map cv) = true from hv) (l.map cv).length (Nat.le_refl _)
      refine ⟨(vn (l.map cv) (l.map cv).length).2.2, true, by rw [hok.out]; exact hc, sVN _ hc hv, ?_⟩
      unfold impl_ValueNumbers.f
      rw [if_pos (show vOk (l.map cv) = true from hv)]
      exact Ev.now _
    | false =>
      refine ⟨[], false, by simp, ?_, ?_⟩
      · unfold spec_ValueNumbers.f
        exact Ev.bind (sIs _ hc) (ev_else (by rw [hv]; decide) (Ev.now _))
      · unfold impl_ValueNumbers.f
        rw [if_neg (show ¬ vOk (l.map cv) = true by rw [show vOk (l.map cv) = false from hv]; decide)]
        exact Ev.now _
  obtain ⟨t, ht⟩ := V.markS (l.map cv) 1 hc (by omega)
  refine Ev.bind (toStmt l hl) (Ev.bind hs (Ev.bind (toStmt l hl) (Ev.bind hi (Ev.bind (eqSame o ho) (ev_if rfl ?_)))))
  refine Ev.step (fun k => by rw [laws_FnExactValueNumbers.j0]) ?_
  refine ev_else (ne_self ok) (Ev.bind (toStmt l hl) (Ev.bind (eqStmtSame _ hc) (ev_if rfl (Ev.bind ht (ev_else (by show ¬ (1 + 4 * ((l.map cv).length : Int) < 0); omega) (Ev.bind (eqSame o ho) (ev_if rfl ?_)))))))
  refine Ev.step (fun k => by rw [laws_FnExactValueNumbers.j1]) ?_
  refine ev_else (ne_self ok) (Ev.bind (V.mark o 1 ho (by omega)) (Ev.bind (V.held o.length 1 ho (by omega)) (ev_else (by show ¬ (1 + (o.length : Int) < 0); omega) (ev_if rfl (Ev.bind (toStmt l hl) (Ev.bind hi (Ev.bind (eqSame o ho) (ev_if rfl ?_))))))))
  refine Ev.step (fun k => by rw [laws_FnExactValueNumbers.j2]) ?_
  exact ev_else (ne_self ok) (Ev.bind (V.held o.length 1 ho (by omega)) (ev_else (by show ¬ (1 + (o.length : Int) < 0); omega) (ev_if rfl (Ev.now _))))

end Go.Proofs.Yteknfebehafbdaa.Pure
