/- areAll at a function over rows of whole numbers; a row of rows read. No condition but these. -/
import Derived.Test.YteknfebehafbdaaK0
import Derived.Test.YteknfebehafbdaaH0
import Derived.Test.YteknfebehafbdaaH6
import Derived.Shelf.Abstract
import Derived.Laws.EntriesVeiled
import Derived.Deep.QuietTactic
import Derived.BigQuiet
namespace Go.Proofs.Yteknfebehafbdaa.K
open Go.RowKit Go.Shelf Go.Proofs.YteknfebehafbdaaW.PrintWords Go.Proofs.YteknfebehafbdaaW.PrintLast Go.Proofs.YteknfebehafbdaaW.PrintMore
set_option linter.unusedVariables false
set_option linter.unusedSimpArgs false

def rdL (xs : List (List Int)) (i : Int) : List Int := xs.getD i.toNat ([] : List Int)
theorem atL {w : World} {A : Option Addr} {n : Nat} {xs : List (List Int)} (h : Kd.C (Kd.slice 2 (Kd.int .i64)) w A n xs) (i : Int) (h0 : 0 ≤ i) (h1 : i < n) : ∃ ad A0 c0, A = some ad ∧ w.cell? (ad.add i.toNat) = some (.slice A0 (rdL xs i).length c0) ∧ (rdL xs i).length ≤ c0 ∧ (Kd.int .i64).C w A0 (rdL xs i).length (rdL xs i) := by
  obtain ⟨ad, c, e, _, hK, hc0⟩ := Kd.C_get h ([] : List Int) i h0 h1
  have hc : ∀ j u, c[j]? = some u → w.cell? (ad.add (i.toNat * 1 + j)) = some u := hc0
  obtain ⟨A0, c0, rfl, l0, g0⟩ := hK
  exact ⟨ad, A0, c0, e, by have hq := hc 0 _ rfl; rwa [Nat.mul_one, Nat.add_zero] at hq, l0, g0⟩
set_option maxHeartbeats 4000000 in
theorem indexFunc_l (g : Nat) (lb : Array Value) (eg : FnOk g) (A : Option Addr) (n c : Nat) (vs : Nat → Value) (p : Nat → Bool) (w : World) (hv : ElemsI w A n vs) (hp : Asked g lb vs n p w) :
    Calls Try.prog 121 #[.slice A n c, .func (.func g) #[] lb] w fun e w' => e = .returned (.int .i64 (ixOf p n)) ∧ Below w.heap.size w w' := by
  have HV := Aside0.mk hv
  have HP := Aside0.mk hp
  have EG := Aside0.mk eg
  have HB := Aside0.mk (Below.refl w.heap.size w)
  clear hv hp eg
  go_enter Try.func121, Try.ntmps121
  go_wp2
  go_loopg [5, 8] n (fun kq _ v8 w' => ∃ x : Int, v8 = .int .i64 x ∧ Aside0 (0 ≤ x) ∧ Aside0 (x ≤ n) ∧ Aside0 (n - x.toNat ≤ kq) ∧ Aside0 (∀ j, j < x.toNat → p j = false) ∧ Aside0 (Below w.heap.size w w'))
  case atStart => exact ⟨0, rfl, ⟨Int.le_refl _⟩, ⟨Int.natCast_nonneg _⟩, ⟨by simp⟩, ⟨fun j hj => absurd hj (Nat.not_lt_zero _)⟩, HB⟩
  case round =>
    clear HB
    obtain ⟨x, rfl, H0, H1, HK, HA, HB⟩ := hrel
    by_cases c3 : x < (n : Int)
    · have h0 := H0.out
      have hn := HV.out.1
      obtain ⟨ad, e1, hx⟩ := HV.out.2 x h0 c3
      cases e1
      replace hx := (HB.out.cell (World.block_lt_of_cell? w _ hx)).trans hx
      have hcall := HP.out x.toNat (by omega) _ HB.out
      have hw : wrap64 (x + 1) = x + 1 := by unfold wrap64; omega
      have HW := Aside0.mk hw
      have c3b0 : decide (x < (n : Int)) = true := decide_eq_true c3
      have q0 := eq_true h0
      have q1 := eq_true c3
      generalize hy : vs x.toNat = y at hx hcall
      have HY := Aside0.mk hy
      have HT := Aside0.mk h0
      have HT1 := Aside0.mk c3
      have HT2 := Aside0.mk hn
      clear hy hw h0 c3 hn
      have eg := EG.out
      unfold FnOk at eg
      cases hq : p x.toNat with
      | true =>
        have HQ := Aside0.mk hq
        rw [hq] at hcall
        clear hq
        go_wp2_with (go_at_fn g; refine hcall.mono ?_; rintro e w' ⟨rfl, hb⟩; have n0_ := Aside0.mk (below_step HB.out hb); clear HB hb; have HB := n0_; clear n0_)
        go_ret
        refine ⟨?_, HB.out⟩
        have h1 := HT.out
        have h2 := HT1.out
        rw [ixOf_hit (k := x.toNat) (by omega) HQ.out HA.out, Int.toNat_of_nonneg h1]; rfl
      | false =>
        have HQ := Aside0.mk hq
        rw [hq] at hcall
        clear hq
        go_wp2_with (go_at_fn g; refine hcall.mono ?_; rintro e w' ⟨rfl, hb⟩; have n0_ := Aside0.mk (below_step HB.out hb); clear HB hb; have HB := n0_; clear n0_)
        have h1 := HT.out
        have h2 := HT1.out
        go_roundg (n - (x + 1).toNat)
        case measure => have := HK.out; omega
        case rel =>
          refine ⟨x + 1, by rw [HW.out], ⟨by omega⟩, ⟨by omega⟩, ⟨by omega⟩, ⟨fun j hj => ?_⟩, HB⟩
          by_cases e : j = x.toNat
          · subst e; exact HQ.out
          · exact HA.out j (by omega)
    · have c3b0 : decide (x < (n : Int)) = false := decide_eq_false c3
      have HX : Aside0 (x = n) := ⟨by have := H1.out; omega⟩
      clear c3
      go_wp2
      go_ret
      refine ⟨?_, HB.out⟩
      rw [ixOf_miss (fun j hj => HA.out j (by have := HX.out; omega))]; rfl

set_option maxHeartbeats 4000000 in
theorem containsFunc_l (g : Nat) (lb : Array Value) (eg : FnOk g) (A : Option Addr) (n c : Nat) (vs : Nat → Value) (p : Nat → Bool) (w : World) (hv : ElemsI w A n vs) (hp : Asked g lb vs n p w) :
    Calls Try.prog 103 #[.slice A n c, .func (.func g) #[] lb] w fun e w' => e = .returned (.bool ((List.range n).any p)) ∧ Below w.heap.size w w' := by
  have hC := fun W h1 h2 => indexFunc_l g lb eg A n c vs p W h1 h2
  have HV := Aside0.mk hv
  have HP := Aside0.mk hp
  clear hv hp eg
  go_enter Try.func103, Try.ntmps103
  go_wp2_with (go_at_call 121; refine (hC _ HV.out HP.out).mono ?_; rintro e w' ⟨rfl, hb⟩)
  go_ret
  exact ⟨by rw [← ixOf_nonneg]; rfl, hb⟩
set_option maxHeartbeats 4000000 in
theorem allLit_l (g : Nat) (lb : Array Value) (eg : FnOk g) (B : Nat) (x : Value) (b : Bool) (W : World) (hc : W.cell? ⟨B, 0, none⟩ = some (.func (.func g) #[] lb))
    (hp : Calls Try.prog g (#[x] ++ lb) W fun e w' => e = .returned (.bool b) ∧ Below W.heap.size W w') :
    Calls Try.prog 104 #[x, .pointer (some ⟨B, 0, none⟩)] W fun e w' => e = .returned (.bool (!b)) ∧ Below W.heap.size W w' := by
  unfold FnOk at eg
  go_enter Try.func104, Try.ntmps104
  go_wp2_with (go_at_fn g; refine hp.mono ?_; rintro e w' ⟨rfl, hb⟩)
  go_ret
  exact ⟨rfl, hb⟩
set_option maxHeartbeats 4000000 in
/-- areAll at whatever function value. -/
theorem areAll_l (g : Nat) (lb : Array Value) (eg : FnOk g) (A : Option Addr) (n c : Nat) (vs : Nat → Value) (p : Nat → Bool) (w : World) (hv : ElemsI w A n vs) (hp : Asked g lb vs n p w) :
    Calls Try.prog 74 #[.slice A n c, .func (.func g) #[] lb] w fun e w' => e = .returned (.bool ((List.range n).all p)) ∧ Below w.heap.size w w' := by
  have hC := fun (W : World) (hB : Below w.heap.size w W) (hB2 : w.heap.size < W.heap.size) (hc : W.cell? ⟨w.heap.size, 0, none⟩ = some (.func (.func g) #[] lb)) =>
    containsFunc_l 104 #[.pointer (some ⟨w.heap.size, 0, none⟩)] (enters_of Try.func104 (by kernel_rfl) rfl) A n c vs (fun j => !p j) W
      ⟨hv.1, fun i h0 h1 => by
        obtain ⟨ad, e, hx⟩ := hv.2 i h0 h1
        exact ⟨ad, e, pw_cell_below hB hx⟩⟩
      (fun j hj W' hb' => allLit_l g lb eg w.heap.size (vs j) (p j) W' ((hb'.cell (p := ⟨w.heap.size, 0, none⟩) hB2).trans hc) (hp j hj W' (hB.trans (hb'.mono hB.size))))
  clear hv hp eg
  go_enter Try.func74, Try.ntmps74
  go_wp2_with (go_at_call 103; refine (hC _ ((Below.refl _ w).alloc (Nat.le_refl _) _) (by simp) (by simp)).mono ?_; rintro e w' ⟨rfl, hb⟩)
  go_ret
  exact ⟨by rw [← any_not]; rfl, ((Below.refl _ w).alloc (Nat.le_refl _) _).trans (hb.mono (by simp))⟩

end Go.Proofs.Yteknfebehafbdaa.K
