/- For all arguments the law FnNeeded answers true. No condition. -/
import Derived.Test.YteknfebehafbdaaQNE2
import Derived.Test.YteknfebehafbdaaQNEV
namespace Go.Proofs.Yteknfebehafbdaa.Pure
open Go.RowKit Go.Proofs.Yteknfebehafbdaa.K Go.Proofs.Yteknfebehafbdaa.V Go.Proofs.Yteknfebehafbdaa.Bx Go.Proofs.YteknfebehafbdaaW.PrintWords Go.Proofs.YteknfebehafbdaaW.PrintLast
set_option linter.unusedVariables false

theorem hasSet (m : Nat → Bool) {n : Int} (h0 : 0 ≤ n) (h1 : n ≤ 31) : Ev (fun k => laws_b10Has.f k (setTo m 32) n) (m n.toNat) := by
  rw [← set_has m h0 h1]
  have hl := setTo_len m 32
  generalize setTo m 32 = l at hl
  unfold laws_b10Has.f
  have key : ∀ d i : Nat, i + d = l.length → Ev (fun k => laws_b10Has.l0 k l n (i : Int)) ((l.drop i).any fun x => decide (x = n)) := by
    intro d
    induction d with
    | zero =>
      intro i hi
      refine ⟨1, fun k hk => ?_⟩
      obtain ⟨k, rfl⟩ : ∃ m, k = m + 1 := ⟨k - 1, by omega⟩
      simp only [laws_b10Has.l0]
      rw [if_neg (by omega), List.drop_of_length_le (by omega)]; rfl
    | succ d ih =>
      intro i hi
      have e : l.drop i = rd l (i : Int) :: l.drop (i + 1) := by
        rw [List.drop_eq_getElem_cons (by omega : i < l.length), rd_nat, List.getD_eq_getElem?_getD, List.getElem?_eq_getElem (by omega)]; rfl
      rw [e]
      by_cases h : rd l (i : Int) = n
      · refine ⟨1, fun k hk => ?_⟩
        obtain ⟨k, rfl⟩ : ∃ m, k = m + 1 := ⟨k - 1, by omega⟩
        simp only [laws_b10Has.l0]
        rw [if_pos (by omega), if_pos (by omega), if_pos h]
        simp [h]
      · refine Ev.step (f := fun k => laws_b10Has.l0 k l n ((i + 1 : Nat) : Int)) (fun k => ?_) ?_
        · simp only [laws_b10Has.l0]; rw [if_pos (by omega), if_pos (by omega), if_neg h, w1 (by omega)]
        · rw [List.any_cons, decide_eq_false h, Bool.false_or]
          exact ih (i + 1) (by omega)
  have := key l.length 0 (by omega)
  simpa using this
theorem setTo_pw (m : Nat → Bool) : ∀ n, (∀ x ∈ setTo m n, 0 ≤ x ∧ x < (n : Int)) ∧ (setTo m n).Pairwise (fun a b => a < b) := by
  intro n
  induction n with
  | zero => exact ⟨fun x hx => absurd hx (by simp [setTo]), by simp [setTo]⟩
  | succ n ih =>
    cases hm : m n with
    | true =>
      rw [← setTo_one hm]
      refine ⟨fun x hx => ?_, ?_⟩
      · rcases List.mem_append.mp hx with h | h
        · have := ih.1 x h; omega
        · rw [List.mem_singleton.mp h]; omega
      · rw [List.pairwise_append]
        exact ⟨ih.2, List.pairwise_singleton _ _, fun a ha b hb => by rw [List.mem_singleton.mp hb]; exact (ih.1 a ha).2⟩
    | false =>
      rw [← setTo_none hm]
      exact ⟨fun x hx => by have := ih.1 x hx; omega, ih.2⟩
theorem rdg {o : List Int} {k : Nat} (h : k < o.length) : rd o (k : Int) = o[k] := by
  rw [rd_nat, List.getD_eq_getElem?_getD, List.getElem?_eq_getElem h]; rfl
/-- The cells that are no inputs, made zero below n. -/
theorem otherLoop {b : Int} {more : List Int} {l : List S58} {c S a nb fb x14 : List Int} {R : Nat → Bool} {r : Bool} {bk : Bool} (hc : c.length = 32)
    (hE : ∀ o : List Int, o.length = 32 → (∀ x : Nat, x < 32 → rd o (x : Int) = if R x = true then rd c (x : Int) else 0) → Ev (fun k => laws_FnNeeded.l2 k l b c S (setTo R 32) x14 a nb bk o 32) r) :
    Ev (fun k => laws_FnNeeded.l2 k l b c S (setTo R 32) x14 a nb bk c 0) r := by
  have key : ∀ d i : Nat, i + d = 32 → ∀ o : List Int, o.length = 32 → (∀ x : Nat, x < 32 → rd o (x : Int) = if x < i ∧ R x = false then 0 else rd c (x : Int)) → Ev (fun k => laws_FnNeeded.l2 k l b c S (setTo R 32) x14 a nb bk o (i : Int)) r := by
    intro d
    induction d with
    | zero =>
      intro i hi o ho hx
      obtain rfl : i = 32 := by omega
      refine hE o ho (fun x hx32 => ?_)
      rw [hx x hx32]
      cases hR : R x with
      | true => rw [if_neg (by simp), if_pos rfl]
      | false => rw [if_pos ⟨hx32, rfl⟩, if_neg (by decide)]
    | succ d ih =>
      intro i hi o ho hx
      refine Ev.step (f := fun k => (laws_b10Has.f k (setTo R 32) (i : Int)).bind fun t => if t = true then laws_FnNeeded.l2 k l b c S (setTo R 32) x14 a nb bk o ((i + 1 : Nat) : Int) else laws_FnNeeded.l2 k l b c S (setTo R 32) x14 a nb bk (o.set i 0) ((i + 1 : Nat) : Int)) (fun k => ?_) (Ev.bind (hasSet R (by omega) (by omega)) ?_)
      · simp only [laws_FnNeeded.l2]
        rw [if_pos (by omega), if_pos (by omega), if_pos (by omega), w1 (by omega), Int.toNat_natCast]
      · rw [Int.toNat_natCast]
        cases hR : R i with
        | true =>
          refine ev_if rfl (ih (i + 1) (by omega) o ho (fun x hx32 => ?_))
          rw [hx x hx32]
          by_cases hxi : x = i
          · subst hxi
            rw [if_neg (by simp [hR]), if_neg (by simp [hR])]
          · by_cases h1 : x < i ∧ R x = false
            · rw [if_pos h1, if_pos ⟨by omega, h1.2⟩]
            · rw [if_neg h1, if_neg (fun h2 => h1 ⟨by omega, h2.2⟩)]
        | false =>
          refine ev_else (by decide) (ih (i + 1) (by omega) (o.set i 0) (by simp; exact ho) (fun x hx32 => ?_))
          by_cases hxi : x = i
          · subst hxi
            rw [rdc_same (by omega), if_pos ⟨by omega, hR⟩]
          · rw [rdc_other hxi, hx x hx32]
            by_cases h1 : x < i ∧ R x = false
            · rw [if_pos h1, if_pos ⟨by omega, h1.2⟩]
            · rw [if_neg h1, if_neg (fun h2 => h1 ⟨by omega, h2.2⟩)]
  exact key 32 0 (by omega) c hc (fun x hx => by rw [if_neg (by omega)])
theorem FnNeeded : laws_FnNeeded.Pure := by
  intro c0 c1 _ _ h0 _ _ h1
  refine Ev.rounds (g := fun k => laws_FnNeeded.f k c0 c1) ?_
  have hs0 := bytes_of h0
  have hs1 := bytes_of h1
  unfold laws_FnNeeded.f laws_b10Long.f
  by_cases hl0 : (c0.length : Int) > 1048576
  · rw [if_pos hl0]
    exact ev_some (ev_if rfl (Ev.now _))
  rw [if_neg hl0]
  by_cases hl1 : (c1.length : Int) > 1048576
  · rw [decide_eq_true hl1]
    exact ev_some (ev_if rfl (Ev.now _))
  rw [decide_eq_false hl1]
  refine ev_some (ev_else (by decide) ?_)
  obtain ⟨l, hE, hv⟩ := drawCode hs0
  obtain ⟨b, eb, hb⟩ := drawBits hs1
  obtain ⟨c, hEc, hc, hw⟩ := drawCells hs1 hb
  have h16 := cOk_len hv
  refine Ev.bind hE (ev_eq eb (Ev.bind hEc ?_))
  -- the wanted cells
  obtain ⟨P, hP⟩ : ∃ P : Nat → Bool, ∀ i : Nat, i < 32 → ∃ v : Int, laws_b10At.f c1 (i : Int) 4 = some v ∧ P i = decide (v = 0) := by
    refine ⟨fun i => match laws_b10At.f c1 (i : Int) 4 with | some v => decide (v = 0) | none => false, fun i hi => ?_⟩
    obtain ⟨v, e, _⟩ := V.b10At hs1 (i : Int) 4 (by omega) (by omega)
    exact ⟨v, e, by simp only [e]⟩
  have hSp := setTo_pw P 32
  have hSl := setTo_len P 32
  have somes : Ev (fun k => laws_FnNeeded.l0 k c1 l b c (setTo P 32) 32) true → Ev (fun k => laws_FnNeeded.l0 k c1 l b c [] 0) true := by
    intro hend
    have key : ∀ d i : Nat, i + d = 32 → Ev (fun k => laws_FnNeeded.l0 k c1 l b c (setTo P i) (i : Int)) true := by
      intro d
      induction d with
      | zero =>
        intro i hi
        obtain rfl : i = 32 := by omega
        exact hend
      | succ d ih =>
        intro i hi
        obtain ⟨v, e, hp⟩ := hP i (by omega)
        have hlen := setTo_len P i
        refine Ev.step (fun k => ?_) (ih (i + 1) (by omega))
        simp only [laws_FnNeeded.l0]
        rw [if_pos (by omega), e, Option.bind_some]
        by_cases hv0 : v = 0
        · rw [if_pos hv0, if_pos (by omega), w1 (by omega), setTo_one (by rw [hp, decide_eq_true hv0])]
        · rw [if_neg hv0, w1 (by omega), setTo_none (by rw [hp, decide_eq_false hv0])]
    exact key 32 0 (by omega)
  refine somes ?_
  generalize hS : setTo P 32 = S at hSp hSl ⊢
  have hSr : ∀ j, j < S.length → 0 ≤ rd S (j : Int) ∧ rd S (j : Int) ≤ 31 := fun j hj => by
    have := hSp.1 _ (List.getElem_mem hj)
    rw [rdg hj]; omega
  have hSi : ∀ j, j < S.length → 1 ≤ j → rd S ((j - 1 : Nat) : Int) < rd S (j : Int) := fun j hj h1 => by
    rw [rdg hj, rdg (by omega : j - 1 < S.length)]
    exact List.pairwise_iff_getElem.mp hSp.2 (j - 1) j (by omega) hj (by omega)
  have hin : Ev (fun k => impl_InputsOf.f k l) (setTo (rdm l l.length) 32, true) := by
    unfold impl_InputsOf.f
    rw [if_pos (show vOk l = true from hv)]
    exact Ev.now _
  have hou : Ev (fun k => impl_OutputsOf.f k l) (setTo (wrm l l.length) 32, true) := by
    unfold impl_OutputsOf.f
    rw [if_pos (show vOk l = true from hv)]
    exact Ev.now _
  have hne := iNeeded hv (by omega) hSi ((celAll_iff S).mpr hSr)
  have hra := iRunCode hv hb hw hc
  have hal := runOf_len b l c l.length
  have hndl := ndd_le l (lvm S S.length) l.length (Nat.le_refl _)
  have hndd := ndd_desc l (lvm S S.length) l.length
  have hnlen := ndd_len l (lvm S S.length) l.length
  have hrun := needed_run (b := b) (m := lvm S S.length) hv l.length (Nat.le_refl _) c c hc hc (fun _ _ _ => rfl)
  rw [Nat.sub_self, List.drop_zero, ← runOf_all] at hrun
  generalize hnr : (ndd l (lvm S S.length) l.length).2.reverse = nr at hne hrun
  have hnm : ∀ n ∈ nr, 0 ≤ n ∧ n < (l.length : Int) := fun n hn => hndl n (by rw [← hnr] at hn; exact List.mem_reverse.mp hn)
  have hnp : nr.Pairwise (fun a b => a < b) := by rw [← hnr, List.pairwise_reverse]; exact hndd
  have hnl : nr.length ≤ 16 := by rw [← hnr, List.length_reverse]; omega
  have hfv : cOk (nr.map fun n => rd_T58 l n) = true := by
    refine cOk_of (by rw [List.length_map]; exact hnl) (fun x hx => ?_)
    obtain ⟨n, hn, rfl⟩ := List.mem_map.mp hx
    obtain ⟨n0, n1⟩ := hnm n hn
    have := cOk_at hv (by omega : n.toNat < l.length)
    rwa [Int.toNat_of_nonneg n0] at this
  have hrb := iRunCode hfv hb hw hc
  have hbl := runOf_len b (nr.map fun n => rd_T58 l n) c (nr.map fun n => rd_T58 l n).length
  rw [runOf_all] at hrb hbl
  generalize hB : runL b (nr.map fun n => rd_T58 l n) c = B at hrb hbl hrun
  -- the end: the wanted cells, then all cells
  have hlast : ∀ o : List Int, o.length = 32 → (∀ x : Nat, x < 32 → rd o (x : Int) = if rdm l l.length x = true then rd c (x : Int) else 0) → Ev (fun k => laws_FnNeeded.l2 k l b c S (setTo (rdm l l.length) 32) (setTo (wrm l l.length) 32) (runOf b l c l.length) B true o 32) true := by
    intro o ho hx
    have hwo : Words b o := fun x hm => by
      obtain ⟨j, hj, e⟩ := List.getElem_of_mem hm
      have h2 := hx j (by omega)
      rw [rdg hj, e] at h2
      rw [h2]
      have hM : 16 ≤ M b := by rcases hb with rfl | rfl | rfl <;> decide
      split
      · exact hw _ (rd_mem (by omega) (by omega))
      · exact ⟨hb, by omega, by omega⟩
    have hrd := iRunCode hv hb hwo ho
    have hdl := runOf_len b l o l.length
    have hD := run_inputs (b := b) hv hc ho (fun x hx32 hm => by rw [hx x hx32, if_pos hm]) l.length (Nat.le_refl _)
    have hst := run_stays (b := b) (c := c) hv hc l.length (Nat.le_refl _)
    generalize runOf b l o l.length = D at hrd hdl hD
    generalize runOf b l c l.length = A at hal hD hst hrun
    have l4 : ∀ d i : Nat, i + d = 32 → Ev (fun k => laws_FnNeeded.l4 k c (setTo (wrm l l.length) 32) A D (i : Int)) true := by
      intro d
      induction d with
      | zero =>
        intro i hi
        refine ⟨1, fun k hk => ?_⟩
        obtain ⟨k, rfl⟩ : ∃ m, k = m + 1 := ⟨k - 1, by omega⟩
        simp only [laws_FnNeeded.l4]
        rw [if_neg (by omega)]
      | succ d ih =>
        intro i hi
        have hh := hasSet (wrm l l.length) (n := (i : Int)) (by omega) (by omega)
        rw [Int.toNat_natCast] at hh
        have hnx := ih (i + 1) (by omega)
        refine Ev.step (fun k => by simp only [laws_FnNeeded.l4]; rw [if_pos (by omega)]) ?_
        refine Ev.bind hh ?_
        cases hm : wrm l l.length i with
        | true =>
          rw [hm] at hh
          refine ev_if rfl (ev_if (by omega) (ev_if (by omega) (ev_if (by omega) (ev_if (hD i (by omega) (.inl hm)) (Ev.bind hh (ev_if rfl ?_))))))
          rw [w1 (by omega)]
          exact hnx
        | false =>
          rw [hm] at hh
          refine ev_else (by decide) (Ev.bind hh (ev_else (by decide) (ev_if (by omega) (ev_if (by omega) (ev_if (by omega) (ev_if (hst i (by omega) hm) ?_))))))
          rw [w1 (by omega)]
          exact hnx
    have l3 : ∀ d i : Nat, i + d = S.length → Ev (fun k => laws_FnNeeded.l3 k c S (setTo (wrm l l.length) 32) A B D (i : Int)) true := by
      intro d
      induction d with
      | zero =>
        intro i hi
        refine Ev.step (fun k => ?_) (l4 32 0 (by omega))
        simp only [laws_FnNeeded.l3]
        rw [if_neg (by omega)]
        rfl
      | succ d ih =>
        intro i hi
        obtain ⟨r0, r1⟩ := hSr i (by omega)
        have hm := lvm_mem hSr S.length (Nat.le_refl _) i (by omega)
        have he := alike_rd hrun r0 r1 hm
        refine Ev.step (fun k => ?_) (ih (i + 1) (by omega))
        simp only [laws_FnNeeded.l3]
        rw [if_pos (by omega), if_pos (by omega), if_pos r0, if_pos (by omega), if_pos (by omega), if_pos he, w1 (by omega)]
    refine Ev.step (fun k => by simp only [laws_FnNeeded.l2]; rw [if_neg (by omega)]) ?_
    refine Ev.bind hrd (ev_if trivial (ev_if rfl (ev_if (by omega) ?_)))
    have e32 : (((D, true).1.length : Int) != 32) = false := by show ((D.length : Int) != 32) = false; rw [hdl, ho]; rfl
    rw [e32]
    refine Ev.step (fun k => by simp only [laws_FnNeeded.j4]; rw [if_neg (by decide)]) ?_
    exact l3 S.length 0 (by omega)
  have hmid : Ev (fun k => laws_FnNeeded.l1 k l b c S nr (setTo (rdm l l.length) 32) (setTo (wrm l l.length) 32) (runOf b l c l.length) (nr.map fun n => rd_T58 l n) (nr.length : Int)) true := by
    refine Ev.step (fun k => by simp only [laws_FnNeeded.l1]; rw [if_neg (by omega)]) ?_
    refine Ev.bind hrb (ev_some (ev_if (by simp; omega) ?_))
    exact otherLoop (more := c1) (nb := B) (fb := B) hc hlast
  have few : ∀ d i : Nat, i + d = nr.length → Ev (fun k => laws_FnNeeded.l1 k l b c S nr (setTo (rdm l l.length) 32) (setTo (wrm l l.length) 32) (runOf b l c l.length) ((nr.take i).map fun n => rd_T58 l n) (i : Int)) true := by
    intro d
    induction d with
    | zero =>
      intro i hi
      obtain rfl : i = nr.length := by omega
      rw [List.take_length]
      exact hmid
    | succ d ih =>
      intro i hi
      obtain ⟨n0, n1⟩ := hnm _ (List.getElem_mem (by omega : i < nr.length))
      rw [← rdg (by omega)] at n0 n1
      have hnx := ih (i + 1) (by omega)
      have et : (nr.take (i + 1)).map (fun n => rd_T58 l n) = (nr.take i).map (fun n => rd_T58 l n) ++ [(⟨(rd_T58 l (rd nr (i : Int))).f0, (rd_T58 l (rd nr (i : Int))).f1, (rd_T58 l (rd nr (i : Int))).f2, (rd_T58 l (rd nr (i : Int))).f3⟩ : S58)] := by
        rw [List.take_add_one, List.getElem?_eq_getElem (by omega), List.map_append, rdg (by omega)]; rfl
      rw [et] at hnx
      have hlt : ((nr.take i).map fun n => rd_T58 l n).length ≤ 16 := by rw [List.length_map, List.length_take]; omega
      refine Ev.step (fun k => ?_) hnx
      simp only [laws_FnNeeded.l1]
      rw [if_pos (by omega), if_pos (by omega), if_neg (by omega), if_neg (by omega)]
      by_cases hi0 : (i : Int) > 0
      · have hp := List.pairwise_iff_getElem.mp hnp (i - 1) i (by omega) (by omega) (by omega)
        rw [← rdg (by omega), ← rdg (by omega)] at hp
        rw [if_pos hi0, wm1 (by omega) (by omega), if_pos (by omega), if_pos (by omega), if_neg (by omega), if_pos n0, if_pos n1, if_pos (by omega), w1 (by omega)]
      · rw [if_neg hi0, if_pos n0, if_pos n1, if_pos (by omega), w1 (by omega)]
  refine Ev.step (fun k => by simp only [laws_FnNeeded.l0]; rw [if_neg (by omega)]) ?_
  refine Ev.bind hne (Ev.bind hin (Ev.bind hou (Ev.bind hra (ev_if rfl (ev_if rfl (ev_if rfl (ev_if rfl ?_)))))))
  have e32 : (((runOf b l c l.length, true).1.length : Int) != 32) = false := by show (((runOf b l c l.length).length : Int) != 32) = false; rw [hal, hc]; rfl
  rw [e32]
  refine Ev.step (fun k => by simp only [laws_FnNeeded.j1]; rw [if_neg (by decide)]) ?_
  have := few nr.length 0 (by omega)
  simpa using this

end Go.Proofs.Yteknfebehafbdaa.Pure
