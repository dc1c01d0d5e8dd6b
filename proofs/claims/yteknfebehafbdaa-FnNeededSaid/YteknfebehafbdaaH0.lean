/- What takes a function value over statements: slices.IndexFunc, slices.ContainsFunc, areAll, lanesOf, at whatever function value that gives its answer and leaves what lay. No condition but these. -/
import Derived.Test.YteknfebehafbdaaK0
import Derived.Shelf.Abstract
import Derived.Laws.EntriesVeiled
import Derived.Deep.QuietTactic
import Derived.BigQuiet
namespace Go.Proofs.Yteknfebehafbdaa.K
open Go.RowKit Go.Shelf Go.Proofs.YteknfebehafbdaaW.PrintWords Go.Proofs.YteknfebehafbdaaW.PrintLast Go.Proofs.YteknfebehafbdaaW.PrintMore
set_option linter.unusedVariables false
set_option linter.unusedSimpArgs false

theorem quiet0 {f : FuncId} {args : Array Value} {w : World} {n : Nat} {v : Value} (h : Calls Try.prog f args (w.drewN n) fun e w' => e = .returned v ∧ Drawn0 (w.drewN n) w') :
    Calls Try.prog f args (w.drewN n) fun e w'' => e = .returned v ∧ ∃ m, w'' = w.drewN m := Calls.quiet_of (h.mono fun _ _ ⟨he, hd⟩ => ⟨he, hd.out⟩)
/-- A call of function g enters it. -/
def FnOk (g : Nat) : Prop := ∀ args w, (callFunc g args).run Try.prog w = .ok (.enter g args) w
/-- The first index below n at which p holds, or -1. -/
def ixOf (p : Nat → Bool) (n : Nat) : Int := match (List.range n).find? p with | some j => (j : Int) | none => -1
theorem ixOf_hit {p : Nat → Bool} {n k : Nat} (hk : k < n) (h : p k = true) (hn : ∀ j, j < k → p j = false) : ixOf p n = k := by
  unfold ixOf
  have : (List.range n).find? p = some k := by
    rw [List.find?_range_eq_some]
    exact ⟨h, by simpa using hk, fun j hj => by simp [hn j hj]⟩
  rw [this]
theorem ixOf_miss {p : Nat → Bool} {n : Nat} (hn : ∀ j, j < n → p j = false) : ixOf p n = -1 := by
  unfold ixOf
  have : (List.range n).find? p = none := by
    rw [List.find?_eq_none]
    intro x hx
    simp [hn x (by simpa using hx)]
  rw [this]
theorem ixOf_nonneg (p : Nat → Bool) (n : Nat) : decide (0 ≤ ixOf p n) = (List.range n).any p := by
  unfold ixOf
  cases h : (List.range n).find? p with
  | none =>
    rw [List.find?_eq_none] at h
    have : (List.range n).any p = false := by
      rw [List.any_eq_false]
      exact h
    rw [this]; rfl
  | some j =>
    have h1 := List.find?_some h
    have h2 := List.mem_of_find?_eq_some h
    have : (List.range n).any p = true := by
      rw [List.any_eq_true]
      exact ⟨j, h2, h1⟩
    rw [this]; simp

/-- n values that lie in a row of one-cell elements. -/
def agg (x : S58) : Value := .agg #[.int .i64 x.f0, .int .i64 x.f1, .int .i64 x.f2, .int .i64 x.f3]
def Elems (w : World) (A : Option Addr) (n : Nat) (xs : List S58) : Prop := Kd.C k58 w A n xs
/-- What is asked of a function value that is called at each value of a row. -/
def Asked (g : Nat) (lb : Array Value) (vs : Nat → Value) (n : Nat) (p : Nat → Bool) (w : World) : Prop :=
  ∀ j, j < n → ∀ W, Below w.heap.size w W → Calls Try.prog g (#[vs j] ++ lb) W fun e w' => e = .returned (.bool (p j)) ∧ Below W.heap.size W w'

set_option maxHeartbeats 4000000 in
theorem indexFunc_s (g : Nat) (lb : Array Value) (eg : FnOk g) (A : Option Addr) (n c : Nat) (xs : List S58) (p : Nat → Bool) (w : World) (hv : Elems w A n xs) (hp : Asked g lb (fun j => agg (rd_T58 xs (j : Int))) n p w) :
    Calls Try.prog 120 #[.slice A n c, .func (.func g) #[] lb] w fun e w' => e = .returned (.int .i64 (ixOf p n)) ∧ Below w.heap.size w w' := by
  have HV := Aside0.mk hv
  have HP := Aside0.mk hp
  have EG := Aside0.mk eg
  have HB := Aside0.mk (Below.refl w.heap.size w)
  clear hv hp eg
  go_enter Try.func120, Try.ntmps120
  go_wp2
  go_loopg [5, 8] n (fun kq _ v8 w' => ∃ x : Int, v8 = .int .i64 x ∧ Aside0 (0 ≤ x) ∧ Aside0 (x ≤ n) ∧ Aside0 (n - x.toNat ≤ kq) ∧ Aside0 (∀ j, j < x.toNat → p j = false) ∧ Aside0 (Below w.heap.size w w'))
  case atStart => exact ⟨0, rfl, ⟨Int.le_refl _⟩, ⟨Int.natCast_nonneg _⟩, ⟨by simp⟩, ⟨fun j hj => absurd hj (Nat.not_lt_zero _)⟩, HB⟩
  case round =>
    clear HB
    obtain ⟨x, rfl, H0, H1, HK, HA, HB⟩ := hrel
    by_cases c3 : x < (n : Int)
    · have h0 := H0.out
      have hn := HV.out.2.1
      obtain ⟨ad, e1, hx0, hx1, hx2, hx3⟩ := at_T58 HV.out x h0 c3
      cases e1
      replace hx0 := (HB.out.cell (World.block_lt_of_cell? w _ hx0)).trans hx0
      replace hx1 := (HB.out.cell (World.block_lt_of_cell? w _ hx1)).trans hx1
      replace hx2 := (HB.out.cell (World.block_lt_of_cell? w _ hx2)).trans hx2
      replace hx3 := (HB.out.cell (World.block_lt_of_cell? w _ hx3)).trans hx3
      have hcall := HP.out x.toNat (by omega) _ HB.out
      have hw : wrap64 (x + 1) = x + 1 := by unfold wrap64; omega
      have HW := Aside0.mk hw
      have c3b0 : decide (x < (n : Int)) = true := decide_eq_true c3
      have q0 := eq_true h0
      have q1 := eq_true c3
      dsimp only at hcall
      rw [Int.toNat_of_nonneg h0] at hcall
      unfold agg at hcall
      generalize hy : rd_T58 xs x = y at hx0 hx1 hx2 hx3 hcall
      have HY := Aside0.mk hy
      have HT := Aside0.mk h0
      have HT1 := Aside0.mk c3
      have HT2 := Aside0.mk hn
      clear hy hw h0 c3 hn
      have eg := EG.out
      unfold FnOk at eg
      cases hq : p x.toNat with
      | true =>
        have HQ := Aside0.mk hq
        rw [hq] at hcall
        clear hq
        go_wp2_with (go_at_fn g; refine hcall.mono ?_; rintro e w' ⟨rfl, hb⟩; have n0_ := Aside0.mk (below_step HB.out hb); clear HB hb; have HB := n0_; clear n0_)
        go_ret
        refine ⟨?_, HB.out⟩
        have h1 := HT.out
        have h2 := HT1.out
        rw [ixOf_hit (k := x.toNat) (by omega) HQ.out HA.out, Int.toNat_of_nonneg h1]; rfl
      | false =>
        have HQ := Aside0.mk hq
        rw [hq] at hcall
        clear hq
        go_wp2_with (go_at_fn g; refine hcall.mono ?_; rintro e w' ⟨rfl, hb⟩; have n0_ := Aside0.mk (below_step HB.out hb); clear HB hb; have HB := n0_; clear n0_)
        have h1 := HT.out
        have h2 := HT1.out
        go_roundg (n - (x + 1).toNat)
        case measure => have := HK.out; omega
        case rel =>
          refine ⟨x + 1, by rw [HW.out], ⟨by omega⟩, ⟨by omega⟩, ⟨by omega⟩, ⟨fun j hj => ?_⟩, HB⟩
          by_cases e : j = x.toNat
          · subst e; exact HQ.out
          · exact HA.out j (by omega)
    · have c3b0 : decide (x < (n : Int)) = false := decide_eq_false c3
      have HX : Aside0 (x = n) := ⟨by have := H1.out; omega⟩
      clear c3
      go_wp2
      go_ret
      refine ⟨?_, HB.out⟩
      rw [ixOf_miss (fun j hj => HA.out j (by have := HX.out; omega))]; rfl

set_option maxHeartbeats 4000000 in
theorem containsFunc_s (g : Nat) (lb : Array Value) (eg : FnOk g) (A : Option Addr) (n c : Nat) (xs : List S58) (p : Nat → Bool) (w : World) (hv : Elems w A n xs) (hp : Asked g lb (fun j => agg (rd_T58 xs (j : Int))) n p w) :
    Calls Try.prog 98 #[.slice A n c, .func (.func g) #[] lb] w fun e w' => e = .returned (.bool ((List.range n).any p)) ∧ Below w.heap.size w w' := by
  have hC := fun W h1 h2 => indexFunc_s g lb eg A n c xs p W h1 h2
  have HV := Aside0.mk hv
  have HP := Aside0.mk hp
  clear hv hp eg
  go_enter Try.func98, Try.ntmps98
  go_wp2_with (go_at_call 120; refine (hC _ HV.out HP.out).mono ?_; rintro e w' ⟨rfl, hb⟩)
  go_ret
  exact ⟨by rw [← ixOf_nonneg]; rfl, hb⟩
set_option maxHeartbeats 4000000 in
theorem allLit_s (g : Nat) (lb : Array Value) (eg : FnOk g) (B : Nat) (x : S58) (b : Bool) (W : World) (hc : W.cell? ⟨B, 0, none⟩ = some (.func (.func g) #[] lb))
    (hp : ∀ W', Below W.heap.size W W' → Calls Try.prog g (#[agg x] ++ lb) W' fun e w' => e = .returned (.bool b) ∧ Below W'.heap.size W' w') :
    Calls Try.prog 99 #[agg x, .pointer (some ⟨B, 0, none⟩)] W fun e w' => e = .returned (.bool (!b)) ∧ Below W.heap.size W w' := by
  unfold FnOk at eg
  unfold agg at *
  have hW : Below W.heap.size W (W.alloc (Obj.cells #[.int .i64 x.f0, .int .i64 x.f1, .int .i64 x.f2, .int .i64 x.f3] 58)) := by repeat (first | exact Below.refl _ _ | apply below_alloc)
  have hc2 := (Below.cell hW (p := ⟨B, 0, none⟩) (World.block_lt_of_cell? W _ hc)).trans hc
  have HPP := Aside0.mk (hp _ hW)
  have HW := Aside0.mk hW
  clear hp hW
  go_enter Try.func99, Try.ntmps99
  go_wp2_with (go_at_fn g; refine HPP.out.mono ?_; rintro e w' ⟨rfl, hb⟩)
  go_ret
  exact ⟨rfl, below_step HW.out hb⟩
theorem any_not (p : Nat → Bool) (l : List Nat) : (!(l.any fun j => !p j)) = l.all p := by
  induction l with
  | nil => rfl
  | cons a l ih => rw [List.any_cons, List.all_cons, ← ih]; cases p a <;> simp
set_option maxHeartbeats 4000000 in
/-- areAll at whatever function value. -/
theorem areAll_s (g : Nat) (lb : Array Value) (eg : FnOk g) (A : Option Addr) (n c : Nat) (xs : List S58) (p : Nat → Bool) (w : World) (hv : Elems w A n xs) (hp : Asked g lb (fun j => agg (rd_T58 xs (j : Int))) n p w) :
    Calls Try.prog 62 #[.slice A n c, .func (.func g) #[] lb] w fun e w' => e = .returned (.bool ((List.range n).all p)) ∧ Below w.heap.size w w' := by
  have hC := fun (W : World) (hB : Below w.heap.size w W) (hB2 : w.heap.size < W.heap.size) (hc : W.cell? ⟨w.heap.size, 0, none⟩ = some (.func (.func g) #[] lb)) =>
    containsFunc_s 99 #[.pointer (some ⟨w.heap.size, 0, none⟩)] (enters_of Try.func99 (by kernel_rfl) rfl) A n c xs (fun j => !p j) W
      (Kd.C_below hv hB)
      (fun j hj W' hb' => allLit_s g lb eg w.heap.size _ (p j) W' ((hb'.cell (p := ⟨w.heap.size, 0, none⟩) hB2).trans hc) (fun W'' hb'' => hp j hj W'' (below_step (below_step hB hb') hb'')))
  clear hv hp eg
  go_enter Try.func62, Try.ntmps62
  go_wp2_with (go_at_call 98; refine (hC _ ((Below.refl _ w).alloc (Nat.le_refl _) _) (by simp) (by simp)).mono ?_; rintro e w' ⟨rfl, hb⟩)
  go_ret
  exact ⟨by rw [← any_not]; rfl, ((Below.refl _ w).alloc (Nat.le_refl _) _).trans (hb.mono (by simp))⟩
end Go.Proofs.Yteknfebehafbdaa.K
