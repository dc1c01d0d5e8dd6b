/- Arrays of 32 marks: the value, the block of the call's own, and the list of the marked cells (impl.cellSet). No condition but these. -/
import Derived.Test.YteknfebehafbdaaK0
import Derived.Test.YteknfebehafbdaaH0
import Derived.Shelf.Abstract
import Derived.Deep.QuietTactic
import Derived.BigQuiet
import Derived.Laws.Rows
namespace Go.Proofs.Yteknfebehafbdaa.K
open Go.RowKit Go.Shelf Go.Proofs.YteknfebehafbdaaW.PrintWords Go.Proofs.YteknfebehafbdaaW.PrintLast Go.Proofs.YteknfebehafbdaaW.PrintMore
attribute [local go_sem] max2_int min2_int max_two min_two max_three min_three max_four min_four   -- for this text's walks alone
set_option linter.unusedVariables false
set_option linter.unusedSimpArgs false

/-- The cells that are marked below x, as a list. -/
def setTo (m : Nat → Bool) (x : Nat) : List Int := ((List.range x).filter m).map fun (i : Nat) => (i : Int)
theorem setTo_one {m : Nat → Bool} {x : Nat} (h : m x = true) : setTo m x ++ [(x : Int)] = setTo m (x + 1) := by
  unfold setTo
  rw [List.range_succ, List.filter_append, List.map_append]
  simp [h]
theorem setTo_none {m : Nat → Bool} {x : Nat} (h : m x = false) : setTo m x = setTo m (x + 1) := by
  unfold setTo
  rw [List.range_succ, List.filter_append, List.map_append]
  simp [h]
theorem setTo_len (m : Nat → Bool) (x : Nat) : (setTo m x).length ≤ x := by
  unfold setTo
  rw [List.length_map]
  exact Nat.le_trans (List.length_filter_le _ _) (by simp)
/-- An array of 32 marks, as a value. -/
def mk32 (m : Nat → Bool) : Array Value := #[.bool (m 0), .bool (m 1), .bool (m 2), .bool (m 3), .bool (m 4), .bool (m 5), .bool (m 6), .bool (m 7), .bool (m 8), .bool (m 9), .bool (m 10), .bool (m 11), .bool (m 12), .bool (m 13), .bool (m 14), .bool (m 15), .bool (m 16), .bool (m 17), .bool (m 18), .bool (m 19), .bool (m 20), .bool (m 21), .bool (m 22), .bool (m 23), .bool (m 24), .bool (m 25), .bool (m 26), .bool (m 27), .bool (m 28), .bool (m 29), .bool (m 30), .bool (m 31)]
theorem mk32_at (m : Nat → Bool) : ∀ i, i < 32 → (mk32 m)[i]? = some (.bool (m i)) := by
  intro i hi
  match i, hi with
  | 0, _ => rfl
  | 1, _ => rfl
  | 2, _ => rfl
  | 3, _ => rfl
  | 4, _ => rfl
  | 5, _ => rfl
  | 6, _ => rfl
  | 7, _ => rfl
  | 8, _ => rfl
  | 9, _ => rfl
  | 10, _ => rfl
  | 11, _ => rfl
  | 12, _ => rfl
  | 13, _ => rfl
  | 14, _ => rfl
  | 15, _ => rfl
  | 16, _ => rfl
  | 17, _ => rfl
  | 18, _ => rfl
  | 19, _ => rfl
  | 20, _ => rfl
  | 21, _ => rfl
  | 22, _ => rfl
  | 23, _ => rfl
  | 24, _ => rfl
  | 25, _ => rfl
  | 26, _ => rfl
  | 27, _ => rfl
  | 28, _ => rfl
  | 29, _ => rfl
  | 30, _ => rfl
  | 31, _ => rfl
  | i + 32, hi => omega
theorem mk32_size (m : Nat → Bool) : (mk32 m).size = 32 := rfl
theorem info79 : (Try.prog.info? 79).map (·.size) = some 32 := by kernel_rfl
theorem idx79 (A : Array Value) (x : Nat) (b : Bool) (hx : x < 32) (h : A[x]? = some (.bool b)) (W : World) : (Instr.index 79 (.agg A) (.int .i64 (x : Int))).run Try.prog W = .ok (.bool b) W := by
  have c1 : 0 ≤ (x : Int) ∧ (x : Int) < (32 : Nat) := by omega
  unfold Instr.index
  simp only [Sem.run_bind]
  go_simp
  intro hh
  omega
set_option maxHeartbeats 4000000 in
set_option maxRecDepth 100000 in
theorem cellSet_c (m : Nat → Bool) (w : World) :
    Calls Try.prog 79 #[.agg (mk32 m)] w fun e w' => ∃ v0_ : Value, e = .returned v0_ ∧ Kd.R (Kd.int .i64) 2 w' w.heap.size (fun _ => True) v0_ (setTo m 32) ∧ Below w.heap.size w w' := by
  have HB := Aside0.mk (Below.refl w.heap.size w)
  have HA := Aside0.mk (mk32_at m)
  have HS := Aside0.mk (mk32_size m)
  generalize mk32 m = A at HA HS ⊢
  go_enter Try.func79, Try.ntmps79
  go_wp2_with ((with_reducible refine gate_dst (N := 6) rfl ?_); refine wpList_load_row rfl 79 (.tmp 1) rfl w.heap.size rfl 79 A (0, 0) _ (heap_alloc_new w _) Try.underlying79 rfl (by rw [HS.out]; exact info79) ?_)
  go_loopg [3, 4, 5, 7] 32 (fun kq v3 _ _ v7 w' => ∃ x : Nat, v7 = .int .i64 (x : Int) ∧ Aside0 (Kd.R (Kd.int .i64) 2 w' w.heap.size (fun _ => True) v3 (setTo m x)) ∧ Aside0 (x ≤ 32) ∧ Aside0 (32 - x ≤ kq) ∧ Aside0 (Below w.heap.size w w'))
  case atStart => exact ⟨0, rfl, ⟨Kd.R_nil _ _ _ _ _⟩, ⟨Nat.zero_le _⟩, ⟨by simp⟩, ⟨by repeat (first | exact HB.out | apply below_alloc | apply pw_below_drewN | apply below_drew1)⟩⟩
  case round =>
    clear HB
    obtain ⟨x, rfl, HO, H1, HK, HB⟩ := hrel
    by_cases c3 : (x : Int) < 32
    · have h32 : x < 32 := by omega
      have c3b0 : decide ((x : Int) < 32) = true := decide_eq_true c3
      have c6 : 0 ≤ (x : Int) := Int.natCast_nonneg _
      have hw : wrap64 ((x : Int) + 1) = ((x + 1 : Nat) : Int) := by unfold wrap64; omega
      have HW := Aside0.mk hw
      have HX := Aside0.mk h32
      have ha := HA.out x h32
      have hlt := Aside0.mk (setTo_len m x)
      cases hm : m x with
      | true =>
        rw [hm] at ha
        have hi := idx79 A x _ h32 ha
        have HM := Aside0.mk (setTo_one hm)
        clear hw h32 hm ha
        go_wp2_with ((with_reducible refine gate_builtin (b := .append) (xs := #[.tmp 12, .tmp 14]) rfl ?_); at_builtin; refine Kd.R_append (Kd.int .i64) (w0 := w) w.heap.size rfl (.tmp 12) (.tmp 14) 33 2 (.int .i64 0) 8 rfl Try.underlying33 info2 rfl (by decide) (by omega) u3 (setTo m x) (x : Int) [.int .i64 (x : Int)] (fun _ => True) (fun _ => False) rfl rfl ?aP (fun _ hk => hk.elim) ?aF ?aO ?aB ?aS ?aL ?_; (case aP => exact rfl); (case aB => exact (by repeat (first | exact HB.out | apply below_alloc | apply pw_below_drewN | apply below_drew1))); (case aF => exact (fun _ _ => trivial)); (case aO => exact (by (with_reducible repeat (first | apply Kd.R_alloc | apply Kd.R_drewN | apply Kd.R_drew)); exact HO.out)); (case aS => exact (below_size (by repeat (first | exact HB.out | apply below_alloc | apply pw_below_drewN | apply below_drew1)))); (case aL => have := hlt.out; have := HX.out; omega); intro v173 w15 ho hb hg hat; rw [HM.out] at ho; have HO2 := Aside0.mk ho; have HB2 := Aside0.mk hb; clear ho hb hg hat)
        go_roundg (32 - (x + 1))
        case measure => have := HK.out; have := HX.out; omega
        case rel =>
          have := HX.out
          exact ⟨x + 1, by first | rfl | rw [HW.out] | trace_state, HO2, ⟨by omega⟩, ⟨by omega⟩, HB2⟩
      | false =>
        rw [hm] at ha
        have hi := idx79 A x _ h32 ha
        have HM := Aside0.mk (setTo_none hm)
        clear hw h32 hm ha
        go_wp2
        go_roundg (32 - (x + 1))
        case measure => have := HK.out; have := HX.out; omega
        case rel =>
          have := HX.out
          exact ⟨x + 1, by first | rfl | rw [HW.out], by rw [← HM.out]; exact HO, ⟨by omega⟩, ⟨by omega⟩, HB⟩
    · have c3b0 : decide ((x : Int) < 32) = false := decide_eq_false c3
      have HX : Aside0 (x = 32) := ⟨by have := H1.out; omega⟩
      clear c3
      go_wp2
      go_ret
      exact ⟨u3, by first | rfl | (simp; done), by have := HO.out; rw [HX.out] at this; exact this, HB.out⟩
/-- 32 marks that lie in a block of the call's own. -/
def Arr (w : World) (base g : Nat) (m : Nat → Bool) : Prop := Kd.R Kd.bool 79 w base (fun _ => True) (.slice (some ⟨g, 0, none⟩) 32 32) ((List.range 32).map m)
theorem mk32_encs (m : Nat → Bool) : (mk32 m).toList = encs Value.bool ((List.range 32).map m) := by
  apply List.ext_getElem?
  intro i
  rcases Nat.lt_or_ge i 32 with hi | hi
  · have := mk32_at m i hi
    rw [Array.getElem?_toList, this]
    simp [encs, List.getElem?_range hi]
  · rw [List.getElem?_eq_none (by rw [Array.length_toList, mk32_size]; exact hi), List.getElem?_eq_none (by simp [encs]; exact hi)]
theorem Arr_new (w : World) (base : Nat) (hb : base ≤ w.heap.size) (m : Nat → Bool) : Arr (w.alloc (.cells (mk32 m) 79)) base w.heap.size m := by
  refine Kd.R_of_own (xs := (List.range 32).map m) ?_ (fun _ _ => trivial)
  have h := World.ownsRow_lit (size := 1) (e := 79) w (mk32 m) 32 hb (by decide) rfl
  rw [mk32_encs] at h
  simpa using h
theorem Arr_heap {w : World} {base g : Nat} {m : Nat → Bool} (h : Arr w base g m) : w.heap[g]? = some (.cells (mk32 m) 79 (0, 0)) := by
  have ho := Kd.own_of_R h
  obtain ⟨hl, h2⟩ := ho
  rcases h2 with ⟨h3, _⟩ | ⟨g', cap, cur, hv, hg, hh, h4, h5, h6, h7⟩
  · cases h3
  · injection hv with h1 h2' h3'
    have hgg : g = g' := by injection h1 with h1; injection h1
    subst hgg
    have hc : cur.toList = (mk32 m).toList := by
      rw [mk32_encs, ← h7, List.take_of_length_le]
      rw [Array.length_toList, h6, ← h3']
      simp
    rw [hh, Array.ext' hc]
theorem Arr_below {w w1 : World} {base g : Nat} {m : Nat → Bool} (h : Arr w base g m) (hb : Below w.heap.size w w1) : Arr w1 base g m := Kd.R_below h hb
theorem Arr_base {w : World} {base g : Nat} {m : Nat → Bool} (h : Arr w base g m) : base ≤ g := Kd.R_base h g rfl
/-- One mark set. -/
def put (m : Nat → Bool) (i : Int) (b : Bool) : Nat → Bool := fun c => if (c : Int) = i then b else m c
theorem Arr_put {w : World} {base g : Nat} {m : Nat → Bool} (h : Arr w base g m) (i : Int) (h0 : 0 ≤ i) (h1 : i ≤ 31) (b : Bool) : Arr (w.setCell ⟨g, i.toNat, none⟩ (.bool b)) base g (put m i b) := by
  have e : ((List.range 32).map m).set i.toNat b = (List.range 32).map (put m i b) := by
    apply List.ext_getElem
    · simp
    · intro j h1 h2
      have hj : j < 32 := by simpa using h2
      rw [List.getElem_map, List.getElem_range, List.getElem_set]
      unfold put
      by_cases hij : i.toNat = j
      · rw [if_pos hij, if_pos (by omega)]
      · rw [if_neg hij, if_neg (by omega), List.getElem_map, List.getElem_range]
  have h2 := Kd.R_putn h i b
  rw [e] at h2
  exact h2
theorem Arr_cell {w : World} {base g : Nat} {m : Nat → Bool} (h : Arr w base g m) (i : Int) (h0 : 0 ≤ i) (h1 : i ≤ 31) : w.cell? ⟨g, i.toNat, none⟩ = some (.bool (m i.toNat)) ∧ w.frozen? ⟨g, i.toNat, none⟩ = false := by
  refine ⟨?_, ?_⟩
  · rw [cell_of_row w g _ _ _ _ (Arr_heap h), mk32_at m _ (by omega)]
  · obtain ⟨_, _, _, _, hf⟩ := Kd.R_elem h false i h0 (by omega)
    have := hf 0
    simpa [Kd.bool, Kd.scalar] using this
end Go.Proofs.Yteknfebehafbdaa.K
