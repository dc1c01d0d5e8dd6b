/- What takes a function value: slices.IndexFunc, slices.ContainsFunc, areAll, lanesOf, at whatever function value that gives its answer and leaves what lay. No condition but these. -/
import Derived.Test.YteknfebehafbdaaK0
import Derived.Test.YteknfebehafbdaaH0
import Derived.Shelf.Abstract
import Derived.Laws.EntriesVeiled
import Derived.Deep.QuietTactic
import Derived.BigQuiet
namespace Go.Proofs.Yteknfebehafbdaa.K
open Go.RowKit Go.Shelf Go.Proofs.YteknfebehafbdaaW.PrintWords Go.Proofs.YteknfebehafbdaaW.PrintLast Go.Proofs.YteknfebehafbdaaW.PrintMore
set_option linter.unusedVariables false
set_option linter.unusedSimpArgs false

/-- n values that lie in a row of one-cell elements. -/
def ElemsI (w : World) (A : Option Addr) (n : Nat) (vs : Nat → Value) : Prop :=
  n ≤ 9223372036854775807 ∧ ∀ i : Int, 0 ≤ i → i < (n : Int) → ∃ ad, A = some ad ∧ w.cell? (ad.add i.toNat) = some (vs i.toNat)
theorem ElemsI.of_ints {w : World} {A : Option Addr} {l : List Int} (h : Kd.C (Kd.int .i64) w A l.length l) : ElemsI w A l.length fun j => .int .i64 (rd l j) :=
  ⟨h.2.1, fun i h0 h1 => by
    obtain ⟨ad, e, hx⟩ := Kd.at_int h i h0 h1
    refine ⟨ad, e, hx.trans ?_⟩
    show _ = some (Value.int .i64 (rd l (i.toNat : Int)))
    rw [Int.toNat_of_nonneg h0]⟩
set_option maxHeartbeats 4000000 in
theorem indexFunc_i (g : Nat) (lb : Array Value) (eg : FnOk g) (A : Option Addr) (n c : Nat) (vs : Nat → Value) (p : Nat → Bool) (w : World) (hv : ElemsI w A n vs) (hp : Asked g lb vs n p w) :
    Calls Try.prog 122 #[.slice A n c, .func (.func g) #[] lb] w fun e w' => e = .returned (.int .i64 (ixOf p n)) ∧ Below w.heap.size w w' := by
  have HV := Aside0.mk hv
  have HP := Aside0.mk hp
  have EG := Aside0.mk eg
  have HB := Aside0.mk (Below.refl w.heap.size w)
  clear hv hp eg
  go_enter Try.func122, Try.ntmps122
  go_wp2
  go_loopg [5, 8] n (fun kq _ v8 w' => ∃ x : Int, v8 = .int .i64 x ∧ Aside0 (0 ≤ x) ∧ Aside0 (x ≤ n) ∧ Aside0 (n - x.toNat ≤ kq) ∧ Aside0 (∀ j, j < x.toNat → p j = false) ∧ Aside0 (Below w.heap.size w w'))
  case atStart => exact ⟨0, rfl, ⟨Int.le_refl _⟩, ⟨Int.natCast_nonneg _⟩, ⟨by simp⟩, ⟨fun j hj => absurd hj (Nat.not_lt_zero _)⟩, HB⟩
  case round =>
    clear HB
    obtain ⟨x, rfl, H0, H1, HK, HA, HB⟩ := hrel
    by_cases c3 : x < (n : Int)
    · have h0 := H0.out
      have hn := HV.out.1
      obtain ⟨ad, e1, hx⟩ := HV.out.2 x h0 c3
      cases e1
      replace hx := (HB.out.cell (World.block_lt_of_cell? w _ hx)).trans hx
      have hcall := HP.out x.toNat (by omega) _ HB.out
      have hw : wrap64 (x + 1) = x + 1 := by unfold wrap64; omega
      have HW := Aside0.mk hw
      have c3b0 : decide (x < (n : Int)) = true := decide_eq_true c3
      have q0 := eq_true h0
      have q1 := eq_true c3
      generalize hy : vs x.toNat = y at hx hcall
      have HY := Aside0.mk hy
      have HT := Aside0.mk h0
      have HT1 := Aside0.mk c3
      have HT2 := Aside0.mk hn
      clear hy hw h0 c3 hn
      have eg := EG.out
      unfold FnOk at eg
      cases hq : p x.toNat with
      | true =>
        have HQ := Aside0.mk hq
        rw [hq] at hcall
        clear hq
        go_wp2_with (go_at_fn g; refine hcall.mono ?_; rintro e w' ⟨rfl, hb⟩; have n0_ := Aside0.mk (below_step HB.out hb); clear HB hb; have HB := n0_; clear n0_)
        go_ret
        refine ⟨?_, HB.out⟩
        have h1 := HT.out
        have h2 := HT1.out
        rw [ixOf_hit (k := x.toNat) (by omega) HQ.out HA.out, Int.toNat_of_nonneg h1]; rfl
      | false =>
        have HQ := Aside0.mk hq
        rw [hq] at hcall
        clear hq
        go_wp2_with (go_at_fn g; refine hcall.mono ?_; rintro e w' ⟨rfl, hb⟩; have n0_ := Aside0.mk (below_step HB.out hb); clear HB hb; have HB := n0_; clear n0_)
        have h1 := HT.out
        have h2 := HT1.out
        go_roundg (n - (x + 1).toNat)
        case measure => have := HK.out; omega
        case rel =>
          refine ⟨x + 1, by rw [HW.out], ⟨by omega⟩, ⟨by omega⟩, ⟨by omega⟩, ⟨fun j hj => ?_⟩, HB⟩
          by_cases e : j = x.toNat
          · subst e; exact HQ.out
          · exact HA.out j (by omega)
    · have c3b0 : decide (x < (n : Int)) = false := decide_eq_false c3
      have HX : Aside0 (x = n) := ⟨by have := H1.out; omega⟩
      clear c3
      go_wp2
      go_ret
      refine ⟨?_, HB.out⟩
      rw [ixOf_miss (fun j hj => HA.out j (by have := HX.out; omega))]; rfl

set_option maxHeartbeats 4000000 in
theorem containsFunc_i (g : Nat) (lb : Array Value) (eg : FnOk g) (A : Option Addr) (n c : Nat) (vs : Nat → Value) (p : Nat → Bool) (w : World) (hv : ElemsI w A n vs) (hp : Asked g lb vs n p w) :
    Calls Try.prog 106 #[.slice A n c, .func (.func g) #[] lb] w fun e w' => e = .returned (.bool ((List.range n).any p)) ∧ Below w.heap.size w w' := by
  have hC := fun W h1 h2 => indexFunc_i g lb eg A n c vs p W h1 h2
  have HV := Aside0.mk hv
  have HP := Aside0.mk hp
  clear hv hp eg
  go_enter Try.func106, Try.ntmps106
  go_wp2_with (go_at_call 122; refine (hC _ HV.out HP.out).mono ?_; rintro e w' ⟨rfl, hb⟩)
  go_ret
  exact ⟨by rw [← ixOf_nonneg]; rfl, hb⟩
set_option maxHeartbeats 4000000 in
theorem allLit_i (g : Nat) (lb : Array Value) (eg : FnOk g) (B : Nat) (x : Value) (b : Bool) (W : World) (hc : W.cell? ⟨B, 0, none⟩ = some (.func (.func g) #[] lb))
    (hp : Calls Try.prog g (#[x] ++ lb) W fun e w' => e = .returned (.bool b) ∧ Below W.heap.size W w') :
    Calls Try.prog 107 #[x, .pointer (some ⟨B, 0, none⟩)] W fun e w' => e = .returned (.bool (!b)) ∧ Below W.heap.size W w' := by
  unfold FnOk at eg
  go_enter Try.func107, Try.ntmps107
  go_wp2_with (go_at_fn g; refine hp.mono ?_; rintro e w' ⟨rfl, hb⟩)
  go_ret
  exact ⟨rfl, hb⟩
set_option maxHeartbeats 4000000 in
/-- areAll at whatever function value. -/
theorem areAll_i (g : Nat) (lb : Array Value) (eg : FnOk g) (A : Option Addr) (n c : Nat) (vs : Nat → Value) (p : Nat → Bool) (w : World) (hv : ElemsI w A n vs) (hp : Asked g lb vs n p w) :
    Calls Try.prog 86 #[.slice A n c, .func (.func g) #[] lb] w fun e w' => e = .returned (.bool ((List.range n).all p)) ∧ Below w.heap.size w w' := by
  have hC := fun (W : World) (hB : Below w.heap.size w W) (hB2 : w.heap.size < W.heap.size) (hc : W.cell? ⟨w.heap.size, 0, none⟩ = some (.func (.func g) #[] lb)) =>
    containsFunc_i 107 #[.pointer (some ⟨w.heap.size, 0, none⟩)] (enters_of Try.func107 (by kernel_rfl) rfl) A n c vs (fun j => !p j) W
      ⟨hv.1, fun i h0 h1 => by
        obtain ⟨ad, e, hx⟩ := hv.2 i h0 h1
        exact ⟨ad, e, pw_cell_below hB hx⟩⟩
      (fun j hj W' hb' => allLit_i g lb eg w.heap.size (vs j) (p j) W' ((hb'.cell (p := ⟨w.heap.size, 0, none⟩) hB2).trans hc) (hp j hj W' (hB.trans (hb'.mono hB.size))))
  clear hv hp eg
  go_enter Try.func86, Try.ntmps86
  go_wp2_with (go_at_call 106; refine (hC _ ((Below.refl _ w).alloc (Nat.le_refl _) _) (by simp) (by simp)).mono ?_; rintro e w' ⟨rfl, hb⟩)
  go_ret
  exact ⟨by rw [← any_not]; rfl, ((Below.refl _ w).alloc (Nat.le_refl _) _).trans (hb.mono (by simp))⟩
end Go.Proofs.Yteknfebehafbdaa.K
