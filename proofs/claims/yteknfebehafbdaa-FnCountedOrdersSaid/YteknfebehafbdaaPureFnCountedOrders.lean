/- For all arguments the law FnCountedOrders answers true. No condition. -/
import Derived.Test.YteknfebehafbdaaQCO2
import Derived.Test.YteknfebehafbdaaQCOV
namespace Go.Proofs.Yteknfebehafbdaa.Pure
open Go.RowKit Go.Proofs.Yteknfebehafbdaa.K Go.Proofs.Yteknfebehafbdaa.V Go.Proofs.Yteknfebehafbdaa.Bx Go.Proofs.YteknfebehafbdaaW.PrintWords Go.Proofs.YteknfebehafbdaaW.PrintLast
set_option linter.unusedVariables false

theorem cOk_take {l : List S58} (h : cOk l = true) (n : Nat) : cOk (l.take n) = true := by
  have h1 := cOk_len h
  refine cOk_of (by rw [List.length_take]; omega) (fun x hx => ?_)
  obtain ⟨j, hj, e⟩ := List.getElem_of_mem (List.mem_of_mem_take hx)
  have := cOk_at h hj
  rw [rd58, List.getD_eq_getElem?_getD, List.getElem?_eq_getElem hj, Option.getD_some, e] at this
  exact this
theorem digs_next (n k i : Nat) : digs n k i ++ [((dg n k i : Nat) : Int)] = digs n k (i + 1) := by unfold digs; exact range_end (F := fun i => ((dg n k i : Nat) : Int)) i
theorem rest_next (n k i : Nat) : k / n ^ i / n = k / n ^ (i + 1) := by rw [Nat.div_div_eq_div_mul, Nat.pow_succ]
theorem few_pow {n : Nat} (h : n ≤ 5) {i : Nat} (hi : i ≤ n) : n ^ i ≤ 3125 := by
  have h1 : n ^ i ≤ 5 ^ i := Nat.pow_le_pow_left h i
  have h2 : (5 : Nat) ^ i ≤ 5 ^ 5 := Nat.pow_le_pow_right (by decide) (by omega)
  omega
theorem lawOf (x : List S58) (hv : cOk x = true) (hn : x.length ≤ 5) : Ev (fun k => laws_FnCountedOrders.j0 k x) true := by
  have hlen := hn
  have hc := counted x
  have hpos := cntG_pos x
  have hpow := few_pow hn (Nat.le_refl x.length)
  have hcnt := cntG_le (by omega : x.length ≤ 10) (2 ^ x.length - 1)
  have hcount : Ev (fun k => impl_CountOrders.f k x) (((cntG x (2 ^ x.length - 1) : Nat) : Int), true) := by
    unfold impl_CountOrders.f
    simp only [iValid]
    refine ev_some (ev_if hv ?_)
    rw [decide_eq_false (by omega : ¬ (x.length : Int) > 10)]
    exact iCount x (by omega)
  refine Ev.step (fun k => by rw [laws_FnCountedOrders.j0]) (Ev.bind hcount ?_)
  generalize cntG x (2 ^ x.length - 1) = C at hc hpos hcnt ⊢
  -- the number of orders so far
  have outer : ∀ D k : Nat, k + D = x.length ^ x.length → Ev (fun f => laws_FnCountedOrders.l1 f x (x.length : Int) (C : Int) true ((x.length ^ x.length : Nat) : Int) ((sm k (fun k => if ordB x (digs x.length k x.length) = true then 1 else 0) : Nat) : Int) (k : Int)) true := by
    intro D
    induction D with
    | zero =>
      intro k hk
      obtain rfl : k = x.length ^ x.length := by omega
      refine ⟨1, fun f hf => ?_⟩
      obtain ⟨f, rfl⟩ : ∃ m, f = m + 1 := ⟨f - 1, by omega⟩
      simp only [laws_FnCountedOrders.l1]
      rw [if_neg (by omega), if_pos trivial, hc, if_pos rfl, decide_eq_true (by omega)]
    | succ D ih =>
      intro k hk
      have hn := ih (k + 1) (by omega)
      have hsm : sm k (fun k => if ordB x (digs x.length k x.length) = true then 1 else 0) ≤ k * 1 := sm_le k (fun j _ => by split <;> omega)
      have inner : ∀ e i : Nat, i + e = x.length → Ev (fun f => laws_FnCountedOrders.l2 f x (x.length : Int) (C : Int) true ((x.length ^ x.length : Nat) : Int) ((sm k (fun k => if ordB x (digs x.length k x.length) = true then 1 else 0) : Nat) : Int) (k : Int) (digs x.length k i) ((k / x.length ^ i : Nat) : Int) (i : Int)) true := by
        intro e
        induction e with
        | zero =>
          intro i hi
          obtain rfl : i = x.length := by omega
          have hord : Ev (fun f => impl_IsOrder.f f x (digs x.length k x.length)) (cOk x && ordB x (digs x.length k x.length)) := iIsOrder x _ (by omega) (by rw [digs_len]; omega)
          rw [hv, Bool.true_and] at hord
          refine Ev.step (f := fun f => (impl_IsOrder.f f x (digs x.length k x.length)).bind fun t => if t = true then laws_FnCountedOrders.l1 f x (x.length : Int) (C : Int) true ((x.length ^ x.length : Nat) : Int) (wrap64 (((sm k (fun k => if ordB x (digs x.length k x.length) = true then 1 else 0) : Nat) : Int) + 1)) (wrap64 ((k : Int) + 1)) else laws_FnCountedOrders.l1 f x (x.length : Int) (C : Int) true ((x.length ^ x.length : Nat) : Int) ((sm k (fun k => if ordB x (digs x.length k x.length) = true then 1 else 0) : Nat) : Int) (wrap64 ((k : Int) + 1))) (fun f => ?_) (Ev.bind hord ?_)
          · simp only [laws_FnCountedOrders.l2]
            rw [if_neg (by omega)]
          rw [w1 (by omega), w1 (by omega)]
          have e1 : sm (k + 1) (fun k => if ordB x (digs x.length k x.length) = true then 1 else 0) = sm k (fun k => if ordB x (digs x.length k x.length) = true then 1 else 0) + if ordB x (digs x.length k x.length) = true then 1 else 0 := rfl
          rw [e1] at hn
          cases ho : ordB x (digs x.length k x.length) with
          | true =>
            rw [ho, if_pos rfl] at hn
            exact ev_if rfl hn
          | false =>
            rw [ho, if_neg (by decide), Nat.add_zero] at hn
            exact ev_else (by decide) hn
        | succ e ihe =>
          intro i hi
          have ih' := ihe (i + 1) (by omega)
          have hk1 : k / x.length ^ i ≤ k := Nat.div_le_self _ _
          have hk2 : k / x.length ^ i / x.length ≤ k / x.length ^ i := Nat.div_le_self _ _
          rw [← rest_next, ← digs_next, show dg x.length k i = k / x.length ^ i % x.length from rfl] at ih'
          refine Ev.step (fun f => ?_) ih'
          generalize k / x.length ^ i = Q at hk1 hk2 ⊢
          have e1 : Int.tmod (Q : Int) (x.length : Int) = ((Q % x.length : Nat) : Int) := by rw [Int.tmod_eq_emod_of_nonneg (by omega), Int.natCast_emod]
          have e2 : Int.tdiv (Q : Int) (x.length : Int) = ((Q / x.length : Nat) : Int) := by rw [Int.tdiv_eq_ediv_of_nonneg (by omega), Int.natCast_ediv]
          simp only [laws_FnCountedOrders.l2]
          rw [if_pos (by omega), if_neg (by omega), digs_len, if_pos (by omega), e1, e2, w1 (by omega)]
          generalize Q / x.length = Q2 at hk2 ⊢
          rw [w_small (by omega)]
      refine Ev.step (fun f => ?_) (inner x.length 0 (by omega))
      simp only [laws_FnCountedOrders.l1]
      rw [if_pos (by omega), Nat.pow_zero, Nat.div_one]
      rfl
  have hstart := outer (x.length ^ x.length) 0 (by omega)
  have pw : ∀ e i : Nat, i + e = x.length → Ev (fun f => laws_FnCountedOrders.l0 f x (x.length : Int) (C : Int) true ((x.length ^ i : Nat) : Int) (i : Int)) true := by
    intro e
    induction e with
    | zero =>
      intro i hi
      obtain rfl : i = x.length := by omega
      refine Ev.step (fun f => ?_) hstart
      simp only [laws_FnCountedOrders.l0]
      rw [if_neg (by omega)]
      rfl
    | succ e ih =>
      intro i hi
      have h1 := few_pow hn (by omega : i + 1 ≤ x.length)
      refine Ev.step (fun f => ?_) (ih (i + 1) (by omega))
      simp only [laws_FnCountedOrders.l0]
      rw [if_pos (by omega), w1 (by omega), ← Int.natCast_mul, ← Nat.pow_succ, w_small (by have h2 : x.length ^ i.succ ≤ 3125 := h1; omega)]
  exact pw x.length 0 (by omega)
theorem FnCountedOrders : laws_FnCountedOrders.Pure := by
  intro c0 c1 _ _ hb0 _ _ hb1
  have hb0 := bytes_of hb0
  refine Ev.rounds (g := fun k => laws_FnCountedOrders.f k c0 c1) ?_
  unfold laws_FnCountedOrders.f laws_b10Long.f
  by_cases hl0 : (c0.length : Int) > 1048576
  · rw [if_pos hl0]
    exact ev_some (ev_if rfl (Ev.now _))
  rw [if_neg hl0]
  by_cases hl1 : (c1.length : Int) > 1048576
  · rw [decide_eq_true hl1]
    exact ev_some (ev_if rfl (Ev.now _))
  rw [decide_eq_false hl1]
  refine ev_some (ev_else (by decide) ?_)
  obtain ⟨l, hd, hv⟩ := drawCode hb0
  refine Ev.bind hd ?_
  by_cases h5 : (l.length : Int) > 5
  · refine ev_if h5 (ev_if (by omega) ?_)
    exact lawOf _ (cOk_take hv _) (by rw [List.length_take]; exact Nat.min_le_left _ _)
  · exact ev_else h5 (lawOf _ hv (by omega))

end Go.Proofs.Yteknfebehafbdaa.Pure
