/- What takes a function value: slices.IndexFunc, slices.ContainsFunc, areAll, lanesOf, at whatever function value that gives its answer and leaves what lay. No condition but these. -/
import Derived.Test.YtpcjjminopdofaaK0
import Derived.Shelf.Abstract
import Derived.Laws.EntriesVeiled
import Derived.Deep.QuietTactic
import Derived.BigQuiet
namespace Go.Proofs.Ytpcjjminopdofaa.K
open Go.RowKit Go.Shelf Go.Proofs.YtpcjjminopdofaaW.PrintWords Go.Proofs.YtpcjjminopdofaaW.PrintLast Go.Proofs.YtpcjjminopdofaaW.PrintMore
set_option linter.unusedVariables false
set_option linter.unusedSimpArgs false

theorem quiet0 {f : FuncId} {args : Array Value} {w : World} {n : Nat} {v : Value} (h : Calls Try.prog f args (w.drewN n) fun e w' => e = .returned v ∧ Drawn0 (w.drewN n) w') :
    Calls Try.prog f args (w.drewN n) fun e w'' => e = .returned v ∧ ∃ m, w'' = w.drewN m := Calls.quiet_of (h.mono fun _ _ ⟨he, hd⟩ => ⟨he, hd.out⟩)
/-- A call of function g enters it. -/
def FnOk (g : Nat) : Prop := ∀ args w, (callFunc g args).run Try.prog w = .ok (.enter g args) w
/-- The first index below n at which p holds, or -1. -/
def ixOf (p : Nat → Bool) (n : Nat) : Int := match (List.range n).find? p with | some j => (j : Int) | none => -1
theorem ixOf_hit {p : Nat → Bool} {n k : Nat} (hk : k < n) (h : p k = true) (hn : ∀ j, j < k → p j = false) : ixOf p n = k := by
  unfold ixOf
  have : (List.range n).find? p = some k := by
    rw [List.find?_range_eq_some]
    exact ⟨h, by simpa using hk, fun j hj => by simp [hn j hj]⟩
  rw [this]
theorem ixOf_miss {p : Nat → Bool} {n : Nat} (hn : ∀ j, j < n → p j = false) : ixOf p n = -1 := by
  unfold ixOf
  have : (List.range n).find? p = none := by
    rw [List.find?_eq_none]
    intro x hx
    simp [hn x (by simpa using hx)]
  rw [this]
theorem ixOf_nonneg (p : Nat → Bool) (n : Nat) : decide (0 ≤ ixOf p n) = (List.range n).any p := by
  unfold ixOf
  cases h : (List.range n).find? p with
  | none =>
    rw [List.find?_eq_none] at h
    have : (List.range n).any p = false := by
      rw [List.any_eq_false]
      exact h
    rw [this]; rfl
  | some j =>
    have h1 := List.find?_some h
    have h2 := List.mem_of_find?_eq_some h
    have : (List.range n).any p = true := by
      rw [List.any_eq_true]
      exact ⟨j, h2, h1⟩
    rw [this]; simp

/-- n values that lie in a row of one-cell elements. -/
def Elems (w : World) (A : Option Addr) (n : Nat) (vs : Nat → Value) : Prop :=
  n ≤ 9223372036854775807 ∧ ∀ i : Int, 0 ≤ i → i < (n : Int) → ∃ ad, A = some ad ∧ w.cell? (ad.add i.toNat) = some (vs i.toNat)
theorem Elems.of_ints {w : World} {A : Option Addr} {l : List Int} (h : Kd.C (Kd.int .i64) w A l.length l) : Elems w A l.length fun j => .int .i64 (rd l j) :=
  ⟨h.2.1, fun i h0 h1 => by
    obtain ⟨ad, e, hx⟩ := Kd.at_int h i h0 h1
    refine ⟨ad, e, hx.trans ?_⟩
    show _ = some (Value.int .i64 (rd l (i.toNat : Int)))
    rw [Int.toNat_of_nonneg h0]⟩
/-- What is asked of a function value that is called at each value of a row. -/
def Asked (g : Nat) (lb : Array Value) (vs : Nat → Value) (n : Nat) (p : Nat → Bool) (w : World) : Prop :=
  ∀ j, j < n → ∀ W, Below w.heap.size w W → Calls Try.prog g (#[vs j] ++ lb) W fun e w' => e = .returned (.bool (p j)) ∧ Below W.heap.size W w'

set_option maxHeartbeats 4000000 in
theorem indexFunc_i (g : Nat) (lb : Array Value) (eg : FnOk g) (A : Option Addr) (n c : Nat) (vs : Nat → Value) (p : Nat → Bool) (w : World) (hv : Elems w A n vs) (hp : Asked g lb vs n p w) :
    Calls Try.prog 166 #[.slice A n c, .func (.func g) #[] lb] w fun e w' => e = .returned (.int .i64 (ixOf p n)) ∧ Below w.heap.size w w' := by
  have HV := Aside0.mk hv
  have HP := Aside0.mk hp
  have EG := Aside0.mk eg
  have HB := Aside0.mk (Below.refl w.heap.size w)
  clear hv hp eg
  go_enter Try.func166, Try.ntmps166
  go_wp2
  go_loopg [5, 8] n (fun kq _ v8 w' => ∃ x : Int, v8 = .int .i64 x ∧ Aside0 (0 ≤ x) ∧ Aside0 (x ≤ n) ∧ Aside0 (n - x.toNat ≤ kq) ∧ Aside0 (∀ j, j < x.toNat → p j = false) ∧ Aside0 (Below w.heap.size w w'))
  case atStart => exact ⟨0, rfl, ⟨Int.le_refl _⟩, ⟨Int.natCast_nonneg _⟩, ⟨by simp⟩, ⟨fun j hj => absurd hj (Nat.not_lt_zero _)⟩, HB⟩
  case round =>
    clear HB
    obtain ⟨x, rfl, H0, H1, HK, HA, HB⟩ := hrel
    by_cases c3 : x < (n : Int)
    · have h0 := H0.out
      have hn := HV.out.1
      obtain ⟨ad, e1, hx⟩ := HV.out.2 x h0 c3
      cases e1
      replace hx := (HB.out.cell (World.block_lt_of_cell? w _ hx)).trans hx
      have hcall := HP.out x.toNat (by omega) _ HB.out
      have hw : wrap64 (x + 1) = x + 1 := by unfold wrap64; omega
      have HW := Aside0.mk hw
      have c3b0 : decide (x < (n : Int)) = true := decide_eq_true c3
      have q0 := eq_true h0
      have q1 := eq_true c3
      generalize hy : vs x.toNat = y at hx hcall
      have HY := Aside0.mk hy
      have HT := Aside0.mk h0
      have HT1 := Aside0.mk c3
      have HT2 := Aside0.mk hn
      clear hy hw h0 c3 hn
      have eg := EG.out
      unfold FnOk at eg
      cases hq : p x.toNat with
      | true =>
        have HQ := Aside0.mk hq
        rw [hq] at hcall
        clear hq
        go_wp2_with (go_at_fn g; refine hcall.mono ?_; rintro e w' ⟨rfl, hb⟩; have n0_ := Aside0.mk (below_step HB.out hb); clear HB hb; have HB := n0_; clear n0_)
        go_ret
        refine ⟨?_, HB.out⟩
        have h1 := HT.out
        have h2 := HT1.out
        rw [ixOf_hit (k := x.toNat) (by omega) HQ.out HA.out, Int.toNat_of_nonneg h1]; rfl
      | false =>
        have HQ := Aside0.mk hq
        rw [hq] at hcall
        clear hq
        go_wp2_with (go_at_fn g; refine hcall.mono ?_; rintro e w' ⟨rfl, hb⟩; have n0_ := Aside0.mk (below_step HB.out hb); clear HB hb; have HB := n0_; clear n0_)
        have h1 := HT.out
        have h2 := HT1.out
        go_roundg (n - (x + 1).toNat)
        case measure => have := HK.out; omega
        case rel =>
          refine ⟨x + 1, by rw [HW.out], ⟨by omega⟩, ⟨by omega⟩, ⟨by omega⟩, ⟨fun j hj => ?_⟩, HB⟩
          by_cases e : j = x.toNat
          · subst e; exact HQ.out
          · exact HA.out j (by omega)
    · have c3b0 : decide (x < (n : Int)) = false := decide_eq_false c3
      have HX : Aside0 (x = n) := ⟨by have := H1.out; omega⟩
      clear c3
      go_wp2
      go_ret
      refine ⟨?_, HB.out⟩
      rw [ixOf_miss (fun j hj => HA.out j (by have := HX.out; omega))]; rfl

set_option maxHeartbeats 4000000 in
theorem containsFunc_i (g : Nat) (lb : Array Value) (eg : FnOk g) (A : Option Addr) (n c : Nat) (vs : Nat → Value) (p : Nat → Bool) (w : World) (hv : Elems w A n vs) (hp : Asked g lb vs n p w) :
    Calls Try.prog 148 #[.slice A n c, .func (.func g) #[] lb] w fun e w' => e = .returned (.bool ((List.range n).any p)) ∧ Below w.heap.size w w' := by
  have hC := fun W h1 h2 => indexFunc_i g lb eg A n c vs p W h1 h2
  have HV := Aside0.mk hv
  have HP := Aside0.mk hp
  clear hv hp eg
  go_enter Try.func148, Try.ntmps148
  go_wp2_with (go_at_call 166; refine (hC _ HV.out HP.out).mono ?_; rintro e w' ⟨rfl, hb⟩)
  go_ret
  exact ⟨by rw [← ixOf_nonneg]; rfl, hb⟩
set_option maxHeartbeats 4000000 in
theorem allLit_i (g : Nat) (lb : Array Value) (eg : FnOk g) (B : Nat) (x : Value) (b : Bool) (W : World) (hc : W.cell? ⟨B, 0, none⟩ = some (.func (.func g) #[] lb))
    (hp : Calls Try.prog g (#[x] ++ lb) W fun e w' => e = .returned (.bool b) ∧ Below W.heap.size W w') :
    Calls Try.prog 149 #[x, .pointer (some ⟨B, 0, none⟩)] W fun e w' => e = .returned (.bool (!b)) ∧ Below W.heap.size W w' := by
  unfold FnOk at eg
  go_enter Try.func149, Try.ntmps149
  go_wp2_with (go_at_fn g; refine hp.mono ?_; rintro e w' ⟨rfl, hb⟩)
  go_ret
  exact ⟨rfl, hb⟩
theorem any_not (p : Nat → Bool) (l : List Nat) : (!(l.any fun j => !p j)) = l.all p := by
  induction l with
  | nil => rfl
  | cons a l ih => rw [List.any_cons, List.all_cons, ← ih]; cases p a <;> simp
set_option maxHeartbeats 4000000 in
/-- areAll at whatever function value. -/
theorem areAll_i (g : Nat) (lb : Array Value) (eg : FnOk g) (A : Option Addr) (n c : Nat) (vs : Nat → Value) (p : Nat → Bool) (w : World) (hv : Elems w A n vs) (hp : Asked g lb vs n p w) :
    Calls Try.prog 87 #[.slice A n c, .func (.func g) #[] lb] w fun e w' => e = .returned (.bool ((List.range n).all p)) ∧ Below w.heap.size w w' := by
  have hC := fun (W : World) (hB : Below w.heap.size w W) (hB2 : w.heap.size < W.heap.size) (hc : W.cell? ⟨w.heap.size, 0, none⟩ = some (.func (.func g) #[] lb)) =>
    containsFunc_i 149 #[.pointer (some ⟨w.heap.size, 0, none⟩)] (enters_of Try.func149 (by kernel_rfl) rfl) A n c vs (fun j => !p j) W
      ⟨hv.1, fun i h0 h1 => by
        obtain ⟨ad, e, hx⟩ := hv.2 i h0 h1
        exact ⟨ad, e, pw_cell_below hB hx⟩⟩
      (fun j hj W' hb' => allLit_i g lb eg w.heap.size (vs j) (p j) W' ((hb'.cell (p := ⟨w.heap.size, 0, none⟩) hB2).trans hc) (hp j hj W' (hB.trans (hb'.mono hB.size))))
  clear hv hp eg
  go_enter Try.func87, Try.ntmps87
  go_wp2_with (go_at_call 148; refine (hC _ ((Below.refl _ w).alloc (Nat.le_refl _) _) (by simp) (by simp)).mono ?_; rintro e w' ⟨rfl, hb⟩)
  go_ret
  exact ⟨by rw [← any_not]; rfl, ((Below.refl _ w).alloc (Nat.le_refl _) _).trans (hb.mono (by simp))⟩
set_option maxHeartbeats 4000000 in
theorem indexFunc_l (g : Nat) (lb : Array Value) (eg : FnOk g) (A : Option Addr) (n c : Nat) (vs : Nat → Value) (p : Nat → Bool) (w : World) (hv : Elems w A n vs) (hp : Asked g lb vs n p w) :
    Calls Try.prog 170 #[.slice A n c, .func (.func g) #[] lb] w fun e w' => e = .returned (.int .i64 (ixOf p n)) ∧ Below w.heap.size w w' := by
  have HV := Aside0.mk hv
  have HP := Aside0.mk hp
  have EG := Aside0.mk eg
  have HB := Aside0.mk (Below.refl w.heap.size w)
  clear hv hp eg
  go_enter Try.func170, Try.ntmps170
  go_wp2
  go_loopg [5, 8] n (fun kq _ v8 w' => ∃ x : Int, v8 = .int .i64 x ∧ Aside0 (0 ≤ x) ∧ Aside0 (x ≤ n) ∧ Aside0 (n - x.toNat ≤ kq) ∧ Aside0 (∀ j, j < x.toNat → p j = false) ∧ Aside0 (Below w.heap.size w w'))
  case atStart => exact ⟨0, rfl, ⟨Int.le_refl _⟩, ⟨Int.natCast_nonneg _⟩, ⟨by simp⟩, ⟨fun j hj => absurd hj (Nat.not_lt_zero _)⟩, HB⟩
  case round =>
    clear HB
    obtain ⟨x, rfl, H0, H1, HK, HA, HB⟩ := hrel
    by_cases c3 : x < (n : Int)
    · have h0 := H0.out
      have hn := HV.out.1
      obtain ⟨ad, e1, hx⟩ := HV.out.2 x h0 c3
      cases e1
      replace hx := (HB.out.cell (World.block_lt_of_cell? w _ hx)).trans hx
      have hcall := HP.out x.toNat (by omega) _ HB.out
      have hw : wrap64 (x + 1) = x + 1 := by unfold wrap64; omega
      have HW := Aside0.mk hw
      have c3b0 : decide (x < (n : Int)) = true := decide_eq_true c3
      have q0 := eq_true h0
      have q1 := eq_true c3
      generalize hy : vs x.toNat = y at hx hcall
      have HY := Aside0.mk hy
      have HT := Aside0.mk h0
      have HT1 := Aside0.mk c3
      have HT2 := Aside0.mk hn
      clear hy hw h0 c3 hn
      have eg := EG.out
      unfold FnOk at eg
      cases hq : p x.toNat with
      | true =>
        have HQ := Aside0.mk hq
        rw [hq] at hcall
        clear hq
        go_wp2_with (go_at_fn g; refine hcall.mono ?_; rintro e w' ⟨rfl, hb⟩; have n0_ := Aside0.mk (below_step HB.out hb); clear HB hb; have HB := n0_; clear n0_)
        go_ret
        refine ⟨?_, HB.out⟩
        have h1 := HT.out
        have h2 := HT1.out
        rw [ixOf_hit (k := x.toNat) (by omega) HQ.out HA.out, Int.toNat_of_nonneg h1]; rfl
      | false =>
        have HQ := Aside0.mk hq
        rw [hq] at hcall
        clear hq
        go_wp2_with (go_at_fn g; refine hcall.mono ?_; rintro e w' ⟨rfl, hb⟩; have n0_ := Aside0.mk (below_step HB.out hb); clear HB hb; have HB := n0_; clear n0_)
        have h1 := HT.out
        have h2 := HT1.out
        go_roundg (n - (x + 1).toNat)
        case measure => have := HK.out; omega
        case rel =>
          refine ⟨x + 1, by rw [HW.out], ⟨by omega⟩, ⟨by omega⟩, ⟨by omega⟩, ⟨fun j hj => ?_⟩, HB⟩
          by_cases e : j = x.toNat
          · subst e; exact HQ.out
          · exact HA.out j (by omega)
    · have c3b0 : decide (x < (n : Int)) = false := decide_eq_false c3
      have HX : Aside0 (x = n) := ⟨by have := H1.out; omega⟩
      clear c3
      go_wp2
      go_ret
      refine ⟨?_, HB.out⟩
      rw [ixOf_miss (fun j hj => HA.out j (by have := HX.out; omega))]; rfl

set_option maxHeartbeats 4000000 in
theorem containsFunc_l (g : Nat) (lb : Array Value) (eg : FnOk g) (A : Option Addr) (n c : Nat) (vs : Nat → Value) (p : Nat → Bool) (w : World) (hv : Elems w A n vs) (hp : Asked g lb vs n p w) :
    Calls Try.prog 167 #[.slice A n c, .func (.func g) #[] lb] w fun e w' => e = .returned (.bool ((List.range n).any p)) ∧ Below w.heap.size w w' := by
  have hC := fun W h1 h2 => indexFunc_l g lb eg A n c vs p W h1 h2
  have HV := Aside0.mk hv
  have HP := Aside0.mk hp
  clear hv hp eg
  go_enter Try.func167, Try.ntmps167
  go_wp2_with (go_at_call 170; refine (hC _ HV.out HP.out).mono ?_; rintro e w' ⟨rfl, hb⟩)
  go_ret
  exact ⟨by rw [← ixOf_nonneg]; rfl, hb⟩
set_option maxHeartbeats 4000000 in
theorem allLit_l (g : Nat) (lb : Array Value) (eg : FnOk g) (B : Nat) (x : Value) (b : Bool) (W : World) (hc : W.cell? ⟨B, 0, none⟩ = some (.func (.func g) #[] lb))
    (hp : Calls Try.prog g (#[x] ++ lb) W fun e w' => e = .returned (.bool b) ∧ Below W.heap.size W w') :
    Calls Try.prog 168 #[x, .pointer (some ⟨B, 0, none⟩)] W fun e w' => e = .returned (.bool (!b)) ∧ Below W.heap.size W w' := by
  unfold FnOk at eg
  go_enter Try.func168, Try.ntmps168
  go_wp2_with (go_at_fn g; refine hp.mono ?_; rintro e w' ⟨rfl, hb⟩)
  go_ret
  exact ⟨rfl, hb⟩
set_option maxHeartbeats 4000000 in
/-- areAll at whatever function value. -/
theorem areAll_l (g : Nat) (lb : Array Value) (eg : FnOk g) (A : Option Addr) (n c : Nat) (vs : Nat → Value) (p : Nat → Bool) (w : World) (hv : Elems w A n vs) (hp : Asked g lb vs n p w) :
    Calls Try.prog 152 #[.slice A n c, .func (.func g) #[] lb] w fun e w' => e = .returned (.bool ((List.range n).all p)) ∧ Below w.heap.size w w' := by
  have hC := fun (W : World) (hB : Below w.heap.size w W) (hB2 : w.heap.size < W.heap.size) (hc : W.cell? ⟨w.heap.size, 0, none⟩ = some (.func (.func g) #[] lb)) =>
    containsFunc_l 168 #[.pointer (some ⟨w.heap.size, 0, none⟩)] (enters_of Try.func168 (by kernel_rfl) rfl) A n c vs (fun j => !p j) W
      ⟨hv.1, fun i h0 h1 => by
        obtain ⟨ad, e, hx⟩ := hv.2 i h0 h1
        exact ⟨ad, e, pw_cell_below hB hx⟩⟩
      (fun j hj W' hb' => allLit_l g lb eg w.heap.size (vs j) (p j) W' ((hb'.cell (p := ⟨w.heap.size, 0, none⟩) hB2).trans hc) (hp j hj W' (hB.trans (hb'.mono hB.size))))
  clear hv hp eg
  go_enter Try.func152, Try.ntmps152
  go_wp2_with (go_at_call 167; refine (hC _ ((Below.refl _ w).alloc (Nat.le_refl _) _) (by simp) (by simp)).mono ?_; rintro e w' ⟨rfl, hb⟩)
  go_ret
  exact ⟨by rw [← any_not]; rfl, ((Below.refl _ w).alloc (Nat.le_refl _) _).trans (hb.mono (by simp))⟩

set_option maxHeartbeats 8000000 in
set_option maxRecDepth 100000 in
/-- lanesOf at whatever function value: a row of its own with the values. -/
theorem lanesOf_c (g : Nat) (lb : Array Value) (eg : FnOk g) (n : Nat) (f : Nat → Int) (w : World) (hn : n ≤ 100000)
    (hp : ∀ j : Nat, j < n → ∀ W, Below w.heap.size w W → Calls Try.prog g (#[.int .i64 (j : Int)] ++ lb) W fun e w' => e = .returned (.int .i64 (f j)) ∧ Below W.heap.size W w') :
    Calls Try.prog 96 #[.int .i64 (n : Int), .func (.func g) #[] lb] w fun e w' => ∃ v0_ : Value, e = .returned v0_ ∧ Kd.R (Kd.int .i64) 2 w' w.heap.size (fun _ => True) v0_ ((List.range n).map f) ∧ Below w.heap.size w w' := by
  have HB := Aside0.mk (Below.refl w.heap.size w)
  have HP := Aside0.mk hp
  have EG := Aside0.mk eg
  have HN := Aside0.mk hn
  clear hp eg
  have c3 : 0 ≤ (n : Int) := Int.natCast_nonneg _
  have c3b0 := eq_true c3
  have c3b1 : decide (0 ≤ (n : Int)) = true := decide_eq_true c3
  clear c3
  have c4 : (n : Int).toNat ≤ 35184372088832 := by omega
  have c4b0 := eq_true c4
  have c4b1 : decide ((n : Int).toNat ≤ 35184372088832) = true := decide_eq_true c4
  clear c4 hn
  obtain ⟨y104, hy104⟩ : ∃ y_ : List Int, y_ = (List.replicate (n : Int).toNat 0) := ⟨_, rfl⟩
  have Ny104 := Aside0.mk hy104
  have HL104 : Aside0 (y104.length = n) := ⟨by rw [hy104]; simp⟩
  clear hy104
  go_enter Try.func96, Try.ntmps96
  go_wp2_with (first | ((with_reducible refine gate_dst (N := 8) rfl ?_); refine Kd.R_make (Kd.int .i64) _ 2 rfl (N := 8) rfl 22 _ _ rfl (n : Int) rfl rfl Try.underlying22 (.int .i64 0) 8 info2 rfl (by decide) (by omega) 0 (ok := fun _ => True) (okp := fun _ => True) rfl (fun _ hk => hk) trivial (of_decide_eq_true (by first | (with_reducible assumption) | assumption)) (Nat.le_trans (Nat.mul_le_mul_right _ (of_decide_eq_true (by first | (with_reducible assumption) | assumption) : (n : Int).toNat ≤ 35184372088832)) (by omega)) (Below.refl _ _) (Nat.le_refl _) ?_; intro v105 w5 ho6 hb hg_ hnew_; clear hg_ hnew_; (first | rw [← Ny104.out] at ho6 | (simp only [Int.reduceToNat] at ho6; rw [← Ny104.out] at ho6)); have n0_ := Aside0.mk (Kd.R_lower ho6 (below_size (by repeat (first | (with_reducible first | exact HB.out | apply below_alloc | apply pw_below_drewN | apply below_drew1) | exact HB.out)))); have n1_ := Aside0.mk (below_step (by repeat (first | (with_reducible first | exact HB.out | apply below_alloc | apply pw_below_drewN | apply below_drew1) | exact HB.out)) hb); clear HB; have HO106 := n0_; have HB := n1_; clear n0_ n1_; clear hb ho6; obtain ⟨Ao7, co7, eo7⟩ := Kd.R_slice HO106.out; subst eo7))
  go_loopg [11] n (fun kq v11 w' => ∃ (x5 : List Int) (x : Int), v11 = .int .i64 x ∧ Aside0 (0 ≤ x ∧ x ≤ n) ∧ Aside0 (x5 = (List.range x.toNat).map f ++ List.replicate (n - x.toNat) 0) ∧ Aside0 (n - x.toNat ≤ kq) ∧ Aside0 (Kd.R (Kd.int .i64) 2 w' w.heap.size (fun _ => True) (.slice Ao7 y104.length co7) x5) ∧ Aside0 (Below w.heap.size w w'))
  case atStart => exact ⟨y104, 0, rfl, ⟨by omega⟩, ⟨by rw [Ny104.out]; simp⟩, ⟨by simp⟩, ⟨by (with_reducible repeat (first | apply Kd.R_alloc | apply Kd.R_drewN | apply Kd.R_drew)); exact HO106.out⟩, ⟨by repeat (first | (with_reducible first | exact HB.out | apply below_alloc | apply pw_below_drewN | apply below_drew1) | exact HB.out)⟩⟩
  case round =>
    try clear c3b0
    try clear c3b1
    try clear c4b0
    try clear c4b1
    obtain ⟨x5, x, rfl, H0, HX, HK1, HO_5, HB⟩ := hrel
    have hl5_1 := (Kd.R_reads' HO_5.out).1
    rw [hl5_1] at HO_5
    have HL5 : Aside0 (x5.length = n) := ⟨hl5_1.symm.trans HL104.out⟩
    (try simp only [hl5_1])
    have HLQ := Aside0.mk hl5_1
    by_cases c8 : x < (y104.length : Int)
    · have c8b0 : decide (x < (y104.length : Int)) = true := decide_eq_true c8
      have H8 : Aside0 (x < (n : Int)) := ⟨by have := HL104.out; omega⟩
      clear c8
      have c10b0 : decide (0 ≤ x) = true := decide_eq_true H0.out.1
      have c11b0 : decide (x < (x5.length : Int)) = true := decide_eq_true (by have := H8.out; have := HL5.out; omega)
      have c8b1 : decide (x < (x5.length : Int)) = true := c11b0
      have hcall := HP.out x.toNat (by have := H8.out; have := H0.out; omega) _ HB.out
      rw [Int.toNat_of_nonneg H0.out.1] at hcall
      obtain ⟨y, hy⟩ : ∃ y : Int, y = f x.toNat := ⟨_, rfl⟩
      rw [← hy] at hcall
      have HY := Aside0.mk hy
      clear hy
      obtain ⟨y108, hy108⟩ : ∃ y_ : List Int, y_ = (x5.set (x : Int).toNat y) := ⟨_, rfl⟩
      have Ny108 := Aside0.mk hy108
      clear hy108
      have HW : Aside0 (wrap64 (x + 1) = x + 1) := ⟨by have := H8.out; have := H0.out; have := HN.out; unfold wrap64; omega⟩
      have eg := EG.out
      unfold FnOk at eg
      try clear hl5_1
      go_wp2_with (first | (go_at_fn g; refine hcall.mono ?_; rintro e w13 ⟨rfl, hb⟩; have n0_ := Aside0.mk (Kd.R_below (by (with_reducible repeat (first | apply Kd.R_alloc | apply Kd.R_drewN | apply Kd.R_drew)); exact HO_5.out) hb); have n1_ := Aside0.mk (below_step (by repeat (first | (with_reducible first | exact HB.out | apply below_alloc | apply pw_below_drewN | apply below_drew1) | exact HB.out)) hb); clear HO_5; clear HB; have HO_5 := n0_; have HB := n1_; clear n0_ n1_; (try clear hb); have p12 : 0 ≤ (x : Int) := of_decide_eq_true (by first | (with_reducible assumption) | assumption); have q12 : (x : Int) < ((x5.length : Int) : Int) := of_decide_eq_true (by first | (with_reducible assumption) | assumption); obtain ⟨go12, co12, eo12, gb12, gl12, cl12, HG12⟩ := Kd.R_form HO_5.out (by omega); (first | cases eo12 | (injection eo12 with ea_ en_ ec_; (first | subst ea_ | (injection ea_ with ea_; subst ea_)); subst ec_; clear en_)); have GB12 := Aside0.mk gb12; have GG12 := Aside0.mk HG12; clear gb12 gl12 HG12; obtain ⟨hx12_0, hf12_0⟩ := Kd.R_celln 0 HO_5.out (x : Int) p12 q12; replace p12 := eq_true p12; replace q12 := eq_true q12; obtain ⟨hy14_, hz14_⟩ := Kd.R_celln 0 HO_5.out (x : Int) (of_decide_eq_true (by first | (with_reducible assumption) | assumption)) (of_decide_eq_true (by first | (with_reducible assumption) | assumption)); have HP14 := Kd.R_putg HO_5.out (x : Int) y) | ((with_reducible refine gate_store (t := 2) (p := 19) rfl ?_); refine store_event (t := 2) (p := 19) (v := ?vo_w15) (w1 := (w13.setCell ⟨go12, (x : Int).toNat, none⟩ (.int .i64 y))) ?hg ?ho ?hn ?hr ?_; (case ho => rfl); (case hg => rfl); (case hn => rfl); (case hr => first | (go_simp; done) | (go_simp; rfl)); intro w15 hw; have hg : w13.grownBy w15 (some go12) := (by rw [hw]; exact HP14.2); have hp_ : Kd.R (Kd.int .i64) 2 w15 w.heap.size (fun _ => True) (.slice (some ⟨go12, 0, none⟩) x5.length co7) y108 := (by rw [hw, Ny108.out]; exact HP14.1); clear HP14; have n0_ := Aside0.mk (hp_); have n1_ := Aside0.mk ((by rw [hw]; exact below_set (HB.out) GB12.out : Below w.heap.size w w15)); clear HO_5; clear HB; have HO_5 := n0_; have HB := n1_; clear n0_ n1_; clear hg hw hp_))
      have hl5_1 := HLQ.out
      (try simp only [← hl5_1])
      clear hl5_1
      go_roundg (n - (x + 1).toNat)
      case measure => have := HK1.out; have := H8.out; have := H0.out; omega
      case rel => exact ⟨y108, x + 1, by first | rw [HW.out] | rfl, ⟨by have := H8.out; have := H0.out; omega⟩, ⟨by
          rw [Ny108.out, HX.out, HY.out]
          have h0 := H0.out.1
          have h8 := H8.out
          obtain ⟨m, rfl⟩ := Int.eq_ofNat_of_zero_le h0
          have e1 : ((m : Int) + 1).toNat = m + 1 := by omega
          rw [e1, Int.toNat_natCast]
          obtain ⟨d, hd⟩ : ∃ d, n - m = d + 1 := ⟨n - m - 1, by omega⟩
          have e2 : n - (m + 1) = d := by omega
          rw [hd, e2, List.range_succ, List.map_append, List.replicate_succ]
          rw [List.set_append, if_neg (by simp)]
          simp⟩, ⟨by have := H8.out; have := H0.out; omega⟩, ⟨by (try simp only [HLQ.out]); (with_reducible repeat (first | apply Kd.R_alloc | apply Kd.R_drewN | apply Kd.R_drew)); exact HO_5.out⟩, ⟨by repeat (first | (with_reducible first | exact HB.out | apply below_alloc | apply pw_below_drewN | apply below_drew1) | exact HB.out)⟩⟩
    · have c8b0 : decide (x < (y104.length : Int)) = false := decide_eq_false c8
      have H8 : Aside0 (x = n) := ⟨by have := HL104.out; have := H0.out; omega⟩
      have c8b1 : decide (x < (x5.length : Int)) = false := decide_eq_false (by have := HL104.out; have := HL5.out; omega)
      clear c8
      have HE : Aside0 ((List.range n).map f = x5) := ⟨by rw [HX.out, H8.out]; simp⟩
      try clear hl5_1
      go_wp2
      go_ret
      exact ⟨_, by first | rfl | (simp [*]; done), by rw [HE.out]; (with_reducible repeat (first | apply Kd.R_alloc | apply Kd.R_drewN | apply Kd.R_drew)); exact HO_5.out, by repeat (first | (with_reducible first | exact HB.out | apply below_alloc | apply pw_below_drewN | apply below_drew1) | exact HB.out)⟩
end Go.Proofs.Ytpcjjminopdofaa.K
