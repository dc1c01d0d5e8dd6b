/- For all arguments the law FnScans answers true. No condition. -/
import Derived.Test.YtpcjjminopdofaaQA3
import Derived.Test.YtpcjjminopdofaaQAV
namespace Go.Proofs.Ytpcjjminopdofaa.Pure
open Go.RowKit Go.Proofs.Ytpcjjminopdofaa.K Go.Proofs.Ytpcjjminopdofaa.V Go.Proofs.Ytpcjjminopdofaa.Bx Go.Proofs.YtpcjjminopdofaaW.PrintWords Go.Proofs.YtpcjjminopdofaaW.PrintLast
set_option linter.unusedVariables false

theorem words_all {b : Int} {l : List Int} (hb : Bits b) (h : Words b l) (j : Nat) : Word b (rd l (j : Int)) := by
  by_cases hj : j < l.length
  · exact words_rd h (by omega) (by omega)
  · rw [rd_nat, List.getD_eq_getElem?_getD, List.getElem?_eq_none (by omega)]
    exact ⟨hb, by decide, M_pos⟩
theorem res_cl (op b : Int) : ∀ x y, Word b x → Word b y → Word b (res op b x y) := fun _ _ hx hy => res_word hx hy
theorem res_as {op b : Int} (h : Assoc op) : ∀ x y z, Word b x → Word b y → Word b z → res op b (res op b x y) z = res op b x (res op b y z) := fun _ _ _ hx hy hz => res_assoc h hx hy hz
theorem res_co {op b : Int} (h : Comm op) : ∀ x y, Word b x → Word b y → res op b x y = res op b y x := fun _ _ hx hy => res_comm h hx hy
def ff (l : List Int) (j : Nat) : Int := rd l (j : Int)
theorem scn_fo (op b : Int) (l : List Int) : ∀ i, scn op b l i = fo (res op b) (ff l) 0 i
  | 0 => rfl
  | i + 1 => by
    show res op b (scn op b l i) (rd l ((i + 1 : Nat) : Int)) = res op b (fo (res op b) (ff l) 0 i) (ff l (0 + i + 1))
    rw [scn_fo op b l i, Nat.zero_add]
    rfl
theorem stps_fo {op b : Int} {l : List Int} (ha : Assoc op) (hb : Bits b) (hw : Words b l) : ∀ i j : Nat, j < l.length → rd (stps op b l i) (j : Int) = fo (res op b) (ff l) (j + 1 - 2 ^ i) (j - (j + 1 - 2 ^ i)) := by
  intro i
  induction i with
  | zero =>
    intro j hj
    rw [show j + 1 - 2 ^ 0 = j by simp, Nat.sub_self]
    rfl
  | succ i ih =>
    intro j hj
    have hp : 2 ^ (i + 1) = 2 * 2 ^ i := by rw [Nat.pow_succ, Nat.mul_comm]
    have h1 : 1 ≤ 2 ^ i := Nat.pow_pos (by decide)
    show rd (stp op b (2 ^ i) (stps op b l i)) (j : Int) = _
    unfold stp
    rw [rd_map (by rw [stps_len]; exact hj)]
    by_cases hF : j < 2 ^ i
    · rw [if_pos hF, ih j hj, show j + 1 - 2 ^ i = 0 by omega, show j + 1 - 2 ^ (i + 1) = 0 by omega]
    · rw [if_neg hF, ih (j - 2 ^ i) (by omega), ih j hj]
      have e := fo_split (res_cl op b) (res_as ha) (f := ff l) (words_all hb hw) (j + 1 - 2 ^ (i + 1)) (j - 2 ^ i - (j + 1 - 2 ^ (i + 1))) (j - (j + 1 - 2 ^ i))
      rw [show j - 2 ^ i + 1 - 2 ^ i = j + 1 - 2 ^ (i + 1) by omega]
      rw [show j + 1 - 2 ^ (i + 1) + (j - 2 ^ i - (j + 1 - 2 ^ (i + 1))) + 1 = j + 1 - 2 ^ i by omega, show j - 2 ^ i - (j + 1 - 2 ^ (i + 1)) + 1 + (j - (j + 1 - 2 ^ i)) = j - (j + 1 - 2 ^ (i + 1)) by omega] at e
      exact e.symm
theorem steps_scan {op b : Int} {l : List Int} (ha : Assoc op) (hb : Bits b) (hw : Words b l) (hn : Lanes (l.length : Int)) : stps op b l (lg l.length) = (List.range l.length).map (scn op b l) := by
  have hg := lg_ge hn
  rw [← map_rd (stps op b l (lg l.length)), stps_len]
  refine List.map_congr_left fun j hj => ?_
  rw [List.mem_range] at hj
  rw [stps_fo ha hb hw _ j hj, show j + 1 - 2 ^ lg l.length = 0 by omega, scn_fo]
  rfl
theorem take_rd (l : List Int) (n j : Nat) (h : j < n) : rd (l.take n) (j : Int) = rd l (j : Int) := by
  rw [rd_nat, rd_nat, List.getD_eq_getElem?_getD, List.getD_eq_getElem?_getD, List.getElem?_take, if_pos h]
theorem drop_rd (l : List Int) (n j : Nat) : rd (l.drop n) (j : Int) = rd l ((n + j : Nat) : Int) := by
  rw [rd_nat, rd_nat, List.getD_eq_getElem?_getD, List.getD_eq_getElem?_getD, List.getElem?_drop]
theorem folds2 (op b : Int) (ho : OpOk op) (hb : Bits b) : ∀ (e : Nat) (l : List Int), e ≤ 10 → l.length = 2 ^ e → Words b l → ∃ v : Int, Ev (fun k => impl_reduced.l0 k op b l) v ∧ (Assoc op → Comm op → v = fo (res op b) (ff l) 0 (2 ^ e - 1)) := by
  intro e
  induction e with
  | zero =>
    intro l _ hl _
    have hl1 : l.length = 1 := hl
    refine ⟨rd l 0, ⟨1, fun k hk => ?_⟩, fun _ _ => rfl⟩
    obtain ⟨k, rfl⟩ : ∃ m, k = m + 1 := ⟨k - 1, by omega⟩
    simp only [impl_reduced.l0]
    rw [if_neg (by omega), if_pos (by omega)]
  | succ e ih =>
    intro l hee hl hw
    have hp : 2 ^ (e + 1) = 2 * 2 ^ e := by rw [Nat.pow_succ, Nat.mul_comm]
    have hq : 2 ^ e ≤ 2 ^ 10 := Nat.pow_le_pow_right (by decide) (by omega)
    have hq0 : 0 < 2 ^ e := Nat.pow_pos (by decide)
    have hh : wrap64 ((l.length : Int) / 2) = ((2 ^ e : Nat) : Int) := by rw [w_small (by omega)]; omega
    have hlt : (l.take (2 ^ e)).length = 2 ^ e := by simp; omega
    have hld : (l.drop (2 ^ e)).length = 2 ^ e := by simp; omega
    have hwt : Words b (l.take (2 ^ e)) := fun x hx => hw x (List.mem_of_mem_take hx)
    have hwd : Words b (l.drop (2 ^ e)) := fun x hx => hw x (List.mem_of_mem_drop hx)
    have hwr : Words b ((List.range (l.take (2 ^ e)).length).map fun (j : Nat) => res op b (rd (l.take (2 ^ e)) (j : Int)) (rd (l.drop (2 ^ e)) (j : Int))) := by
      intro x hx
      obtain ⟨j, hj, rfl⟩ := List.mem_map.mp hx
      rw [List.mem_range] at hj
      exact res_word (words_rd hwt (by omega) (by omega)) (words_rd hwd (by omega) (by omega))
    obtain ⟨v, hi, hv⟩ := ih _ (by omega) (by rw [List.length_map, List.length_range, hlt]) hwr
    refine ⟨v, ?_, fun ha hc => ?_⟩
    · refine Ev.step (f := fun k => (impl_laneWise.f k op b (l.take (2 ^ e)) (l.drop (2 ^ e))).bind fun t653 => (impl_reduced.l0 k op b t653)) (fun k => ?_) (Ev.bind (iWise ho hwt hwd (by omega) (by omega)) hi)
      simp only [impl_reduced.l0]
      rw [hh, if_pos (by omega), if_pos (by omega), if_pos (by omega), Int.toNat_natCast]
    · have hA := words_all hb hw
      rw [hv ha hc]
      rw [fo_ext (g := fun j => res op b (ff l j) (ff (l.drop (2 ^ e)) j)) 0 0 (2 ^ e - 1) (fun j hj => by
        unfold ff
        rw [Nat.zero_add, rd_map (by omega), take_rd _ _ _ (by omega)]), fo_pair (res_cl op b) (res_as ha) (res_co hc) (f := ff l) (g := ff (l.drop (2 ^ e))) hA (words_all hb hwd) 0]
      rw [fo_ext (f := ff (l.drop (2 ^ e))) (g := ff l) 0 (2 ^ e) (2 ^ e - 1) (fun j hj => by
        unfold ff
        rw [Nat.zero_add, drop_rd])]
      have e1 := fo_split (res_cl op b) (res_as ha) (f := ff l) hA 0 (2 ^ e - 1) (2 ^ e - 1)
      rw [show 0 + (2 ^ e - 1) + 1 = 2 ^ e by omega, show 2 ^ e - 1 + 1 + (2 ^ e - 1) = 2 ^ (e + 1) - 1 by omega] at e1
      exact e1.symm
theorem lanes_pow2 {n : Nat} (h : Lanes (n : Int)) : ∃ e : Nat, e ≤ 10 ∧ n = 2 ^ e := by
  rcases h with h | h | h | h
  · exact ⟨1, by omega, by omega⟩
  · exact ⟨2, by omega, by omega⟩
  · exact ⟨3, by omega, by omega⟩
  · exact ⟨4, by omega, by omega⟩
theorem op_ok {c b x y : Int} (hc : OpOk c) (hx : Word b x) (hy : Word b y) : impl_DoOp.f c b x y = some (res c b x y, true) := by
  rw [iDoOp]; unfold doOp; rw [if_pos ⟨hc, hx, hy⟩]
theorem FnScans : laws_FnScans.Pure := by
  intro l0 l1 _ _ h0 _ _ h1
  refine Ev.rounds (g := fun k => laws_FnScans.f k l0 l1) ?_
  have b0 := bytes_of h0
  have b1 := bytes_of h1
  unfold laws_FnScans.f
  have hlong : ∃ t, laws_r8Long.f l0 l1 = some t := by
    unfold laws_r8Long.f
    split <;> exact ⟨_, rfl⟩
  obtain ⟨t, ht⟩ := hlong
  refine ev_eq ht ?_
  by_cases htt : t = true
  · exact ev_if htt (Ev.now _)
  refine ev_else htt ?_
  obtain ⟨b, eb, hb⟩ := drawBits b0
  refine ev_eq eb ?_
  obtain ⟨n, en, hn⟩ := drawLanes b1
  refine ev_eq en ?_
  have h16 := lanes_le hn
  obtain ⟨l, el, hl, hw⟩ := drawVector b0 b hb n (by omega)
  refine Ev.bind el ?_
  obtain ⟨op, eo, ho0, ho1⟩ := r8At b1 20 18 (by omega) (by omega)
  refine ev_eq eo ?_
  have ho : OpOk op := ⟨ho0, by omega⟩
  have hv : vec b l = true := vec_iff.mpr ⟨hb, by rw [hl]; exact hn, hw⟩
  obtain ⟨e, he, hne⟩ := lanes_pow2 hn
  obtain ⟨v, hred, hvv⟩ := folds2 op b ho hb e l he (by omega) hw
  have hR : Ev (fun k => impl_ReduceLanes.f k op b l) (v, true) := by
    unfold impl_ReduceLanes.f
    exact ev_eq (iOp op) (ev_if (decide_eq_true ho) (Ev.bind (Ev.now (vec b l)) (ev_if hv (Ev.bind hred (Ev.now _)))))
  have hS : Ev (fun k => impl_ScanLanes.f k op b l) ((List.range l.length).map (scn op b l), true) := by
    unfold impl_ScanLanes.f
    exact ev_eq (iOp op) (ev_if (decide_eq_true ho) (Ev.bind (Ev.now (vec b l)) (ev_if hv (Ev.bind (iScan ho hw (by omega) (by omega)) (Ev.now _)))))
  have hT : Ev (fun k => impl_StepScan.f k op b l) (stps op b l (lg l.length), true) := by
    unfold impl_StepScan.f
    exact ev_eq (iOp op) (ev_if (decide_eq_true ho) (Ev.bind (Ev.now (vec b l)) (ev_if hv (Ev.bind ⟨0, fun k _ => if_pos ⟨ho, hv⟩⟩ (Ev.now _)))))
  refine Ev.bind hR (Ev.bind hS (Ev.bind hT (ev_if rfl (ev_if rfl (ev_if rfl (ev_if (by simp [hl]) (ev_if (by rw [stps_len, hl]) (ev_if (by simp; omega) (ev_if (by omega) ?_)))))))))
  have e0 : rd ((List.range l.length).map (scn op b l)) 0 = rd l 0 := (rd_map (i := 0) (by omega)).trans rfl
  refine Ev.step (fun k => by rw [laws_FnScans.j0]) ?_
  refine ev_else (by rw [e0]; simp) ?_
  have hlt : ∀ i : Nat, i < n → rd ((List.range l.length).map (scn op b l)) (i : Int) = scn op b l i := fun i hi => rd_map (by omega)
  have hlen : ((List.range l.length).map (scn op b l)).length = n := by simp [hl]
  have hst := stps_len op b l (lg l.length)
  have hstw := stps_words (op := op) hw (lg l.length)
  have key : ∀ d i : Nat, i + d = n → 1 ≤ i → Ev (fun k => laws_FnScans.l0 k b l op v ((List.range l.length).map (scn op b l)) (stps op b l (lg l.length)) (n : Int) (i : Int)) true := by
    intro d
    induction d with
    | zero =>
      intro i hi _
      refine Ev.step (f := fun k => (impl_IsAssociative.f op).bind fun t1575 => (if t1575 = true then ((laws_r8Same.f k ((List.range l.length).map (scn op b l)) (stps op b l (lg l.length))).bind fun t1576 => (if t1576 = true then ((impl_IsCommutative.f op).bind fun t1577 => (if t1577 = true then (if 0 ≤ (wrap64 ((n : Int) - 1)) then (if (wrap64 ((n : Int) - 1)) < (((List.range l.length).map (scn op b l)).length : Int) then (some ((rd ((List.range l.length).map (scn op b l)) (wrap64 ((n : Int) - 1))) == v)) else (none)) else (none)) else (some true))) else (some false))) else ((impl_IsVector.f k b (stps op b l (lg l.length))).bind fun t1579 => (some t1579)))) (fun k => ?_) ?_
      · simp only [laws_FnScans.l0]
        rw [if_neg (by omega)]
      · refine ev_eq (iAssoc op) ?_
        by_cases ha : Assoc op
        · refine ev_if (decide_eq_true ha) ?_
          rw [steps_scan ha hb hw (by rw [hl]; exact hn)]
          refine Ev.bind (r8Same _ (by rw [hlen]; omega)) (ev_if rfl (ev_eq (iComm op) ?_))
          by_cases hc : Comm op
          · refine ev_if (decide_eq_true hc) ?_
            have ew : wrap64 ((n : Int) - 1) = ((n - 1 : Nat) : Int) := by rw [w_small (by omega)]; omega
            rw [ew]
            refine ev_if (by omega) (ev_if (by omega) ?_)
            rw [hlt (n - 1) (by omega), hvv ha hc, scn_fo, hne]
            rw [beq_self_eq_true]
            exact Ev.now _
          · exact ev_else (by rw [decide_eq_true_eq]; exact hc) (Ev.now _)
        · refine ev_else (by rw [decide_eq_true_eq]; exact ha) ?_
          have hvs : vec b (stps op b l (lg l.length)) = true := vec_iff.mpr ⟨hb, by rw [hst, hl]; exact hn, hstw⟩
          refine Ev.bind (Ev.now (vec b (stps op b l (lg l.length)))) ?_
          rw [hvs]
          exact Ev.now _
    | succ d ih =>
      intro i hi h1i
      refine Ev.step (fun k => ?_) (ih (i + 1) (by omega) (by omega))
      simp only [laws_FnScans.l0]
      have ew : wrap64 ((i : Int) - 1) = ((i - 1 : Nat) : Int) := by rw [w_small (by omega)]; omega
      obtain ⟨j, rfl⟩ : ∃ j, i = j + 1 := ⟨i - 1, by omega⟩
      rw [if_pos (by omega), ew, if_pos (by omega), if_pos (by omega), if_pos (by omega), if_pos (by omega), hlt (j + 1 - 1) (by omega), hlt (j + 1) (by omega), op_ok ho (scn_word hw _ (by omega)) (words_rd hw (by omega) (by omega)), Option.bind_some, if_pos rfl, if_pos (by omega), if_pos (show scn op b l (j + 1) = res op b (scn op b l (j + 1 - 1)) (rd l ((j + 1 : Nat) : Int)) by rw [Nat.add_sub_cancel]; rfl), w1 (by omega)]
  exact key (n - 1) 1 (by omega) (Nat.le_refl _)

end Go.Proofs.Ytpcjjminopdofaa.Pure
