-- Laid by a program of this session.
import Derived.Test.YtpcjjminopdofaaK0
import Derived.Test.YtpcjjminopdofaaH0
import Derived.Test.YtpcjjminopdofaaK3
namespace Go.Proofs.Ytpcjjminopdofaa.K
open Go.RowKit Go.Proofs.YtpcjjminopdofaaW.PrintWords Go.Proofs.YtpcjjminopdofaaW.PrintLast Go.Proofs.YtpcjjminopdofaaW.PrintMore Go.Proofs.Ytpcjjminopdofaa.Bx Go.Shelf
attribute [local go_sem] max2_int min2_int max_two min_two max_three min_three max_four min_four   -- for this text's walks alone
set_option linter.unusedVariables false
set_option linter.unusedSimpArgs false

/-! ### impl_areVectors: function 106 -/
/-- Vectors with as many lanes as the first. -/
def vecs (b : Int) (ls : List (List Int)) : Bool := (List.range ls.length).all fun (j : Nat) => vec b (rd_L1 ls (j : Int)) && (((rd_L1 ls (j : Int)).length : Int) == ((rd_L1 ls 0).length : Int))
def impl_areVectors.f (_k : Nat) (a0 : Int) (l1 : List (List Int)) : Option (Bool) := some (vecs a0 l1)
theorem impl_areVectors.mono : ∀ a0 a1 k, LeO (impl_areVectors.f k a0 a1) (impl_areVectors.f (k + 1) a0 a1) := fun _ _ _ => LeO.refl _
set_option maxHeartbeats 4000000 in
theorem impl_areVectors.lit (b : Int) (ls : List (List Int)) (l : List Int) (A0 : Option Addr) (c0 c1 : Nat) (ad : Addr) (Az : Option Addr) (cz : Nat) (B : Nat) (W : World)
  (hc : W.cell? ⟨B, 0, none⟩ = some (.int .i64 b)) (hd : W.cell? ⟨B + 1, 0, none⟩ = some (.slice (some ad) ls.length c1)) (hz : W.cell? ad = some (.slice Az (rd_L1 ls 0).length cz))
  (hn : 0 < ls.length) (hl : (rd_L1 ls 0).length ≤ 9223372036854775807) (hl2 : l.length ≤ 9223372036854775807) (hx : Kd.C (Kd.int .i64) W A0 l.length l) (hcx : l.length ≤ c0) :
  Calls Try.prog 153 #[.slice A0 l.length c0, .pointer (some ⟨B, 0, none⟩), .pointer (some ⟨B + 1, 0, none⟩)] W fun e w' => e = .returned (.bool (vec b l && ((l.length : Int) == ((rd_L1 ls 0).length : Int)))) ∧ Below W.heap.size W w' := by
 have HX := Aside0.mk hx
 have HN := Aside0.mk hn
 have hn1 : ((0 : Int) < (ls.length : Int)) := by omega
 clear hx hn
 cases hv : vec b l with
 | false =>
  have HV := Aside0.mk hv
  clear hv
  go_enter Try.func153, Try.ntmps153
  go_wp2_with (go_at_call 32; (with_reducible refine (impl_IsVector.calls 0 b A0 c0 l false _ ?s1 hcx (by unfold impl_IsVector.f; rw [HV.out])).mono ?_); (case s1 => exact Kd.C_below HX.out (by repeat (first | exact Below.refl _ _ | apply below_alloc | apply pw_below_drewN | apply below_drew1))); rintro e w' ⟨rfl, hb⟩)
  go_ret
  exact ⟨rfl, hb⟩
 | true =>
  have HV := Aside0.mk hv
  clear hv
  go_enter Try.func153, Try.ntmps153
  go_wp2_with (go_at_call 32; (with_reducible refine (impl_IsVector.calls 0 b A0 c0 l true _ ?s1 hcx (by unfold impl_IsVector.f; rw [HV.out])).mono ?_); (case s1 => exact Kd.C_below HX.out (by repeat (first | exact Below.refl _ _ | apply below_alloc | apply pw_below_drewN | apply below_drew1))); rintro e w' ⟨rfl, hb⟩; have hd' := pw_cell_below hb hd; have hz' := pw_cell_below hb hz)
  go_ret
  exact ⟨rfl, hb⟩
set_option maxHeartbeats 8000000 in
set_option maxRecDepth 100000 in
theorem impl_areVectors.calls (k : Nat) (a0 : Int) (A1 : Option Addr) (c1 : Nat) (l1 : List (List Int)) (r : Bool) (w : World) (hr1 : Kd.C (Kd.slice 2 (Kd.int .i64)) w A1 l1.length l1) (hc1 : l1.length ≤ c1) (h : impl_areVectors.f k a0 l1 = some r) :
  Calls Try.prog 106 #[.int .i64 a0, .slice A1 l1.length c1] w fun e w' => e = .returned (.bool r) ∧ Below w.heap.size w w' := by
 obtain rfl := Option.some.inj h
 have hex : ∀ j : Nat, ∃ v : Value, j < l1.length → ∃ ad A0 c0, A1 = some ad ∧ w.cell? (ad.add j) = some v ∧ v = .slice A0 (rd_L1 l1 (j : Int)).length c0 ∧ (rd_L1 l1 (j : Int)).length ≤ c0 ∧ (Kd.int .i64).C w A0 (rd_L1 l1 (j : Int)).length (rd_L1 l1 (j : Int)) := by
  intro j
  by_cases hj : j < l1.length
  rotate_left
  ·exact ⟨.bool true, fun hh => absurd hh hj⟩
  obtain ⟨ad, A0, c0, e, hx, h1, h2⟩ := at_L1 hr1 (j : Int) (by omega) (by omega)
  exact ⟨_, fun _ => ⟨ad, A0, c0, e, by simpa using hx, rfl, h1, h2⟩⟩
 obtain ⟨vs, hvs⟩ := Classical.axiomOfChoice hex
 have hA := fun (W : World) (hB : Below w.heap.size w W) (hB2 : w.heap.size + 1 < W.heap.size) (hc : W.cell? ⟨w.heap.size, 0, none⟩ = some (.int .i64 a0)) (hd : W.cell? ⟨w.heap.size + 1, 0, none⟩ = some (.slice A1 l1.length c1)) =>
  areAll_l 153 #[.pointer (some ⟨w.heap.size, 0, none⟩), .pointer (some ⟨w.heap.size + 1, 0, none⟩)] (enters_of Try.func153 (by kernel_rfl) rfl) A1 l1.length c1 vs (fun (j : Nat) => vec a0 (rd_L1 l1 (j : Int)) && (((rd_L1 l1 (j : Int)).length : Int) == ((rd_L1 l1 0).length : Int))) W
   ⟨hr1.2.1, fun i h0 h1 => by
    obtain ⟨ad, A0, c0, e, hx, _, _, _⟩ := hvs i.toNat (by omega)
    exact ⟨ad, e, pw_cell_below hB hx⟩⟩
   (fun j hj W' hb' => by
    obtain ⟨ad, A0, c0, e, hx, ev, h1, h2⟩ := hvs j hj
    obtain ⟨ad0, Az, cz, e0, hz, hlz, hCz⟩ := at_L1 hr1 0 (Int.le_refl _) (by omega)
    have e00 : ad0.add (0 : Int).toNat = ad0 := by cases ad0; rfl
    rw [e00] at hz
    rw [ev]
    rw [e0] at hd
    exact impl_areVectors.lit a0 l1 _ A0 c0 c1 ad0 Az cz w.heap.size W' ((hb'.cell (p := ⟨w.heap.size, 0, none⟩) (by show w.heap.size < _; omega)).trans hc) ((hb'.cell (p := ⟨w.heap.size + 1, 0, none⟩) (by show w.heap.size + 1 < _; omega)).trans hd) (pw_cell_below hb' (pw_cell_below hB hz)) (by omega) hCz.2.1 h2.2.1 (Kd.C_below (Kd.C_below h2 hB) hb') h1)
 have HA := Aside0.mk hA
 clear hA hvs hex hr1
 go_enter Try.func106, Try.ntmps106
 go_wp2_with (go_at_call 152; refine (HA.out _ ?a1 ?a2 ?a3 ?a4).mono ?_; (case a1 => repeat (first | exact Below.refl _ _ | apply below_alloc | apply pw_below_drewN | apply below_drew1)); (case a2 => simp); (case a3 => simp); (case a4 => simp); rintro e w' ⟨rfl, hb⟩)
 go_ret
 refine ⟨rfl, below_step ?_ hb⟩
 repeat (first | exact Below.refl _ _ | apply below_alloc | apply pw_below_drewN | apply below_drew1)

end Go.Proofs.Ytpcjjminopdofaa.K
