/- For all arguments the law FnWidened answers true. No condition. -/
import Derived.Test.YtpcjjminopdofaaQB2
import Derived.Test.YtpcjjminopdofaaQBV
namespace Go.Proofs.Ytpcjjminopdofaa.Pure
open Go.RowKit Go.Proofs.Ytpcjjminopdofaa.K Go.Proofs.Ytpcjjminopdofaa.V Go.Proofs.Ytpcjjminopdofaa.Bx Go.Proofs.YtpcjjminopdofaaW.PrintWords Go.Proofs.YtpcjjminopdofaaW.PrintLast
set_option linter.unusedVariables false

def B48 (b : Int) : Prop := b = 4 ∨ b = 8
theorem b48 {b : Int} (h : B48 b) : Bits b ∧ Bits (2 * b) ∧ b ≤ 8 ∧ 4 ≤ b := by
  rcases h with rfl | rfl
  · exact ⟨.inl rfl, .inr (.inl rfl), by omega, by omega⟩
  · exact ⟨.inr (.inl rfl), .inr (.inr rfl), by omega, by omega⟩
theorem m84 : M (2 * 4 / 2) = 16 ∧ M (2 * 4) = 256 ∧ M 4 = 16 := by decide
theorem m168 : M (2 * 8 / 2) = 256 ∧ M (2 * 8) = 65536 ∧ M 8 = 256 := by decide
theorem wid_word {b x : Int} (s : Bool) (h : B48 b) (hx : Word b x) : Word (2 * b) (wid b s x) := by
  unfold wid
  cases s with
  | true => rw [if_pos rfl]; exact mod_word (b48 h).2.1 _
  | false =>
    rw [if_neg (by simp)]
    refine ⟨(b48 h).2.1, hx.2.1, ?_⟩
    have h2 := hx.2.2
    rcases h with rfl | rfl
    · rw [m84.2.2] at h2; rw [m84.2.1]; omega
    · rw [m168.2.2] at h2; rw [m168.2.1]; omega
theorem nar_signed {b x : Int} (h : B48 b) (hx : Word b x) : nar (2 * b) 2 (wid b true x) = x := by
  have h1 := hx.2.1
  have h2 := hx.2.2
  unfold wid nar
  rw [if_pos rfl, if_neg (by omega), if_neg (by omega)]
  rcases h with rfl | rfl
  · rw [m84.2.2] at h2
    unfold sg clamp
    rw [m84.1, m84.2.1, m84.2.2]
    repeat' split
    all_goals omega
  · rw [m168.2.2] at h2
    unfold sg clamp
    rw [m168.1, m168.2.1, m168.2.2]
    repeat' split
    all_goals omega
theorem nar_unsigned {b x : Int} (h : B48 b) (hx : Word b x) : nar (2 * b) 1 (wid b false x) = x := by
  have h1 := hx.2.1
  have h2 := hx.2.2
  unfold wid nar mn
  rw [if_neg (show ¬ ((1 : Int) = 0) by omega), if_pos (show (1 : Int) = 1 from rfl), if_neg (show ¬ (false = true) by simp)]
  rcases h with rfl | rfl
  · rw [m84.2.2] at h2
    rw [m84.1]
    split <;> omega
  · rw [m168.2.2] at h2
    rw [m168.1]
    split <;> omega
theorem nar_cut {b x : Int} (s : Bool) (h : B48 b) (hx : Word b x) : nar (2 * b) 0 (wid b s x) = x := by
  have h1 := hx.2.1
  have h2 := hx.2.2
  unfold nar wid
  rw [if_pos rfl]
  rcases h with rfl | rfl
  · rw [m84.2.2] at h2
    unfold sg
    rw [m84.1, m84.2.1, m84.2.2]
    repeat' split
    all_goals omega
  · rw [m168.2.2] at h2
    unfold sg
    rw [m168.1, m168.2.1, m168.2.2]
    repeat' split
    all_goals omega
theorem half_of {b : Int} (h : B48 b) : 2 * b / 2 = b := by omega
theorem nar_word {b : Int} (x : Int) (h : B48 b) : Word b (nar (2 * b) 2 x) := by
  unfold nar
  rw [if_neg (by omega), if_neg (by omega), half_of h]
  exact mod_word (b48 h).1 _
theorem nar_sg {b x : Int} (h : B48 b) : sg b (nar (2 * b) 2 x) = clamp (sg (2 * b) x) (-(M b / 2)) (M b / 2 - 1) := by
  unfold nar
  rw [if_neg (by omega), if_neg (by omega), half_of h]
  generalize sg (2 * b) x = y
  unfold sg clamp
  rcases h with rfl | rfl
  · rw [m84.2.2]
    repeat' split
    all_goals omega
  · rw [m168.2.2]
    repeat' split
    all_goals omega
theorem narL_back {b : Int} {l : List Int} (s : Bool) (m : Int) (h : B48 b) (hw : Words b l) (hm : ∀ x, Word b x → nar (2 * b) m (wid b s x) = x) : narL (2 * b) m (widen b l s) = l := by
  have e : widen b l s = l.map (wid b s) := by
    unfold widen
    have e : ((List.range l.length).map fun (j : Nat) => wid b s (rd l (j : Int))) = ((List.range l.length).map fun (j : Nat) => rd l (j : Int)).map (wid b s) := by
      rw [List.map_map]; rfl
    rw [e, map_rd]
  unfold narL
  have e2 : ∀ z : List Int, ((List.range z.length).map fun (j : Nat) => nar (2 * b) m (rd z (j : Int))) = z.map (nar (2 * b) m) := by
    intro z
    have e : ((List.range z.length).map fun (j : Nat) => nar (2 * b) m (rd z (j : Int))) = ((List.range z.length).map fun (j : Nat) => rd z (j : Int)).map (nar (2 * b) m) := by
      rw [List.map_map]; rfl
    rw [e, map_rd]
  rw [e2, e, List.map_map]
  refine (List.map_congr_left fun x hx => ?_).trans (List.map_id l)
  exact hm x (hw x hx)
theorem widen_words {b : Int} {l : List Int} (s : Bool) (h : B48 b) (hw : Words b l) : Words (2 * b) (widen b l s) := by
  intro x hx
  unfold widen at hx
  obtain ⟨j, hj, rfl⟩ := List.mem_map.mp hx
  rw [List.mem_range] at hj
  exact wid_word s h (words_rd hw (by omega) (by omega))
theorem sg_ok {b x : Int} (hx : Word b x) : impl_SignedOf.f b x = some (sg b x, true) := by
  rw [iSignedOf]; unfold signedOf; rw [if_pos hx]
theorem wl0 (k : Nat) (x5 : Int) (x6 : Int) (x17 : List Int) (x18 : List Int) (x20 : Int) : laws_FnWidened.l0 (k + 1) x5 x6 x17 x18 x20 = (if x20 < x6 then (if 0 ≤ x20 then (if x20 < (x17.length : Int) then ((impl_SignedOf.f (wrap64 (2 * x5)) (rd x17 x20)).bind fun bt1614 => (if x20 < (x18.length : Int) then ((impl_SignedOf.f x5 (rd x18 x20)).bind fun bt1617 => (if 0 ≤ (IntKind.u64.wrap (wrap64 (x5 - 1))) then (if bt1614.2 = true then (if bt1617.2 = true then (if 0 ≤ (wrap64 (x20 + x6)) then (if (wrap64 (x20 + x6)) < (x18.length : Int) then (if (rd x18 x20) = (rd x18 (wrap64 (x20 + x6))) then (if bt1614.1 < (wrap64 (-(shl .i64 1 (IntKind.u64.wrap (wrap64 (x5 - 1)))))) then (if bt1617.1 = (wrap64 (-(shl .i64 1 (IntKind.u64.wrap (wrap64 (x5 - 1)))))) then (if bt1614.1 ≥ (shl .i64 1 (IntKind.u64.wrap (wrap64 (x5 - 1)))) then (if bt1617.1 = (wrap64 ((shl .i64 1 (IntKind.u64.wrap (wrap64 (x5 - 1)))) - 1)) then (if bt1614.1 ≥ (wrap64 (-(shl .i64 1 (IntKind.u64.wrap (wrap64 (x5 - 1)))))) then (if bt1614.1 < (shl .i64 1 (IntKind.u64.wrap (wrap64 (x5 - 1)))) then (if bt1617.1 = bt1614.1 then (laws_FnWidened.l0 k x5 x6 x17 x18 (wrap64 (x20 + 1))) else (some false)) else (laws_FnWidened.l0 k x5 x6 x17 x18 (wrap64 (x20 + 1)))) else (laws_FnWidened.l0 k x5 x6 x17 x18 (wrap64 (x20 + 1)))) else (some false)) else (if bt1614.1 ≥ (wrap64 (-(shl .i64 1 (IntKind.u64.wrap (wrap64 (x5 - 1)))))) then (if bt1614.1 < (shl .i64 1 (IntKind.u64.wrap (wrap64 (x5 - 1)))) then (if bt1617.1 = bt1614.1 then (laws_FnWidened.l0 k x5 x6 x17 x18 (wrap64 (x20 + 1))) else (some false)) else (laws_FnWidened.l0 k x5 x6 x17 x18 (wrap64 (x20 + 1)))) else (laws_FnWidened.l0 k x5 x6 x17 x18 (wrap64 (x20 + 1))))) else (some false)) else (if bt1614.1 ≥ (shl .i64 1 (IntKind.u64.wrap (wrap64 (x5 - 1)))) then (if bt1617.1 = (wrap64 ((shl .i64 1 (IntKind.u64.wrap (wrap64 (x5 - 1)))) - 1)) then (if bt1614.1 ≥ (wrap64 (-(shl .i64 1 (IntKind.u64.wrap (wrap64 (x5 - 1)))))) then (if bt1614.1 < (shl .i64 1 (IntKind.u64.wrap (wrap64 (x5 - 1)))) then (if bt1617.1 = bt1614.1 then (laws_FnWidened.l0 k x5 x6 x17 x18 (wrap64 (x20 + 1))) else (some false)) else (laws_FnWidened.l0 k x5 x6 x17 x18 (wrap64 (x20 + 1)))) else (laws_FnWidened.l0 k x5 x6 x17 x18 (wrap64 (x20 + 1)))) else (some false)) else (if bt1614.1 ≥ (wrap64 (-(shl .i64 1 (IntKind.u64.wrap (wrap64 (x5 - 1)))))) then (if bt1614.1 < (shl .i64 1 (IntKind.u64.wrap (wrap64 (x5 - 1)))) then (if bt1617.1 = bt1614.1 then (laws_FnWidened.l0 k x5 x6 x17 x18 (wrap64 (x20 + 1))) else (some false)) else (laws_FnWidened.l0 k x5 x6 x17 x18 (wrap64 (x20 + 1)))) else (laws_FnWidened.l0 k x5 x6 x17 x18 (wrap64 (x20 + 1)))))) else (some false)) else (none)) else (none)) else (some false)) else (some false)) else (none))) else (none))) else (none)) else (none)) else (some true)) := rfl
theorem wRound {k : Nat} {b : Int} {n d i : Nat} {y z : List Int} (hB : B48 b) (hn : n ≤ 8) (hi : n = i + (d + 1)) (hy : y.length = n) (hz : z.length = 2 * n) (hx : Word (2 * b) (rd y (i : Int))) (H1 : Aside0 (rd z (i : Int) = nar (2 * b) 2 (rd y (i : Int)))) (H2 : Aside0 (rd z ((i + n : Nat) : Int) = nar (2 * b) 2 (rd y (i : Int)))) :
    laws_FnWidened.l0 (k + 1) b (n : Int) y z (i : Int) = laws_FnWidened.l0 k b (n : Int) y z ((i + 1 : Nat) : Int) := by
  obtain ⟨hb, hb2, hb8, hb4⟩ := b48 hB
  have hM : 16 ≤ M b ∧ M b ≤ 256 := by rcases hB with rfl | rfl <;> decide
  have e3 : wrap64 (2 * b) = 2 * b := w_small (by omega)
  have e5 : IntKind.u64.wrap (wrap64 (b - 1)) = b - 1 := by rw [w_small (by omega), u_small (by omega)]
  have e6 : wrap64 ((i : Int) + (n : Int)) = ((i + n : Nat) : Int) := by rw [w_small (by omega)]; omega
  have e7 : wrap64 (-(M b / 2)) = -(M b / 2) := w_small (by omega)
  have e8 : wrap64 (M b / 2 - 1) = M b / 2 - 1 := w_small (by omega)
  have p1 : (i : Int) < (n : Int) := by omega
  have p2 : 0 ≤ (i : Int) := by omega
  have p3 : (i : Int) < (y.length : Int) := by omega
  have p4 : (i : Int) < (z.length : Int) := by omega
  have p5 : 0 ≤ b - 1 := by omega
  have p6 : 0 ≤ ((i + n : Nat) : Int) := by omega
  have p7 : ((i + n : Nat) : Int) < (z.length : Int) := by omega
  have e9 : wrap64 ((i : Int) + 1) = ((i + 1 : Nat) : Int) := w1 (by omega)
  have hY := sg_ok (nar_word (rd y (i : Int)) hB)
  rw [nar_sg hB] at hY
  have hX := sg_ok hx
  have h1 := H1.out
  have h2 := H2.out
  rw [← e9]
  rw [wl0]
  generalize laws_FnWidened.l0 k b (n : Int) y z (wrap64 ((i : Int) + 1)) = C
  rw [if_pos p1, if_pos p2, if_pos p3, e3, hX, Option.bind_some, if_pos p4, h1, hY, Option.bind_some, e5, if_pos p5, e6, if_pos p6, if_pos p7, h2, shlB1 hb, e7, e8]
  clear hX hY h1 h2 H1 H2
  have hH : 8 ≤ M b / 2 := by omega
  generalize sg (2 * b) (rd y (i : Int)) = X
  generalize M b / 2 = H at *
  unfold clamp
  simp only [if_true]
  by_cases c1 : X < -H
  · have c2 : ¬ X ≥ H := by omega
    have c3 : ¬ X ≥ -H := by omega
    simp only [c1, c2, c3, if_true, if_false]
  · by_cases c2 : X ≥ H
    · have c3 : X ≥ -H := by omega
      have c4 : ¬ X < H := by omega
      have c5 : H - 1 < X := by omega
      simp only [c1, c2, c3, c4, c5, if_true, if_false]
    · have c3 : X ≥ -H := by omega
      have c4 : X < H := by omega
      have c5 : ¬ H - 1 < X := by omega
      simp only [c1, c2, c3, c4, c5, if_true, if_false]
theorem FnWidened : laws_FnWidened.Pure := by
  intro l0 l1 _ _ h0 _ _ h1
  refine Ev.rounds (g := fun k => laws_FnWidened.f k l0 l1) ?_
  have b0 := bytes_of h0
  have b1 := bytes_of h1
  unfold laws_FnWidened.f
  have hlong : ∃ t, laws_r8Long.f l0 l1 = some t := by
    unfold laws_r8Long.f
    split <;> exact ⟨_, rfl⟩
  obtain ⟨t, ht⟩ := hlong
  refine ev_eq ht ?_
  by_cases htt : t = true
  · exact ev_if htt (Ev.now _)
  refine ev_else htt ?_
  obtain ⟨u, eu, hu0, hu1⟩ := r8At b0 40 2 (by omega) (by omega)
  refine ev_eq eu ?_
  obtain ⟨v, ev, hv0, hv1⟩ := r8At b1 40 2 (by omega) (by omega)
  refine ev_eq ev ?_
  have e1 : wrap64 (4 + wrap64 (4 * u)) = 4 + 4 * u := by rw [w_small (n := 4 * u) (by omega), w_small (by omega)]
  have e2 : wrap64 (4 * wrap64 (1 + v)) = ((4 * (1 + v.toNat) : Nat) : Int) := by rw [w_small (n := 1 + v) (by omega), w_small (by omega)]; omega
  rw [e1, e2]
  obtain ⟨b, hbe⟩ : ∃ b, b = 4 + 4 * u := ⟨_, rfl⟩
  obtain ⟨n, hne⟩ : ∃ n, n = 4 * (1 + v.toNat) := ⟨_, rfl⟩
  rw [← hbe, ← hne]
  have hB : B48 b := by unfold B48; omega
  have hn : n = 4 ∨ n = 8 := by omega
  obtain ⟨hb, hb2, hb8, hb4⟩ := b48 hB
  obtain ⟨l, el, hl, hw⟩ := drawVector b0 b hb n (by omega)
  refine Ev.bind el ?_
  obtain ⟨z, ez, hz0, hz1⟩ := r8At b1 41 2 (by omega) (by omega)
  refine ev_eq ez ?_
  have hL : Lanes (l.length : Int) := by unfold Lanes; omega
  have hvec : vec b l = true := vec_iff.mpr ⟨hb, hL, hw⟩
  have hWid : WidOk b l := ⟨hb8, hvec, by omega⟩
  have hlen : ∀ s, (widen b l s).length = n := by intro s; unfold widen; simp [hl]
  have ww := fun s => widen_words s hB hw
  have hsplit : ∀ s, (widen b l s).take (l.length / 2) ++ (widen b l s).drop (l.length / 2) = widen b l s := fun s => List.take_append_drop _ _
  have e3 : wrap64 (2 * b) = 2 * b := w_small (by omega)
  have hvecs : ∀ s, vecs (2 * b) [(widen b l s).take (l.length / 2), (widen b l s).drop (l.length / 2)] = true := by
    intro s
    rw [vecs_two]
    unfold both
    have q1 : ((widen b l s).take (l.length / 2)).length = n / 2 := by rw [List.length_take, hlen]; omega
    have q2 : ((widen b l s).drop (l.length / 2)).length = n / 2 := by rw [List.length_drop, hlen]; omega
    have v1 : vec (2 * b) ((widen b l s).take (l.length / 2)) = true := vec_iff.mpr ⟨hb2, by rw [q1]; unfold Lanes; omega, fun x hx => ww s x (List.mem_of_mem_take hx)⟩
    have v2 : vec (2 * b) ((widen b l s).drop (l.length / 2)) = true := vec_iff.mpr ⟨hb2, by rw [q2]; unfold Lanes; omega, fun x hx => ww s x (List.mem_of_mem_drop hx)⟩
    rw [v1, v2, q1, q2]
    simp
  have hnar : ∀ s m, 0 ≤ m ∧ m ≤ 2 → (∀ x, Word b x → nar (2 * b) m (wid b s x) = x) → ∀ k, impl_NarrowLanes.f k (2 * b) ((widen b l s).take (l.length / 2)) ((widen b l s).drop (l.length / 2)) m = some (l, true) := by
    intro s m hm hx k
    unfold impl_NarrowLanes.f
    rw [if_pos ⟨by omega, hvecs s, by rw [List.length_take, hlen]; omega, hm.1, hm.2⟩, hsplit, narL_back s m hB hw hx]
  have hwd : Ev (fun k => impl_WidenLanes.f k b l (z == 1)) ((widen b l (z == 1)).take (l.length / 2), (widen b l (z == 1)).drop (l.length / 2), true) := ⟨0, fun k _ => by unfold impl_WidenLanes.f; rw [if_pos hWid]⟩
  refine Ev.bind hwd ?_
  have rest : ∀ s m, (0 ≤ m ∧ m ≤ 2) → (∀ x, Word b x → nar (2 * b) m (wid b s x) = x) → Ev (fun k => laws_FnWidened.j0 k l1 b (n : Int) l ((widen b l s).take (l.length / 2)) ((widen b l s).drop (l.length / 2)) true m) true := by
    intro s m hm hx
    refine Ev.step (fun k => by rw [laws_FnWidened.j0]) ?_
    rw [e3]
    refine Ev.bind ⟨0, fun k _ => hnar s m hm hx k⟩ (Ev.bind ⟨0, fun k _ => hnar s 0 (by omega) (fun x hx => nar_cut s hB hx) k⟩ (ev_if rfl (ev_if rfl (ev_if rfl (Ev.bind (r8Same l (by omega)) (ev_if rfl (Ev.bind (r8Same l (by omega)) ?_)))))))
    refine Ev.step (fun k => by rw [laws_FnWidened.j1]) ?_
    refine ev_else (by simp) ?_
    rw [e3]
    obtain ⟨y, ey, hy, hyw⟩ := drawVector b1 (2 * b) hb2 n (by omega)
    refine Ev.bind ey ?_
    have hyv : vec (2 * b) y = true := vec_iff.mpr ⟨hb2, by rw [hy]; unfold Lanes; omega, hyw⟩
    have hyy : vecs (2 * b) [y, y] = true := by rw [vecs_two]; unfold both; rw [hyv]; simp
    have hN : Ev (fun k => impl_NarrowLanes.f k (2 * b) y y 2) (narL (2 * b) 2 (y ++ y), true) := ⟨0, fun k _ => by unfold impl_NarrowLanes.f; rw [if_pos ⟨by omega, hyy, by omega, by omega, by omega⟩]⟩
    refine Ev.bind hN (ev_if rfl ?_)
    have hnl : (narL (2 * b) 2 (y ++ y)).length = 2 * n := by unfold narL; simp [hy]; omega
    have e4 : wrap64 (2 * (n : Int)) = ((2 * n : Nat) : Int) := by rw [w_small (by omega)]; omega
    refine Ev.step (fun k => by rw [laws_FnWidened.j2]) ?_
    rw [e4]
    refine ev_else (by show ¬ ((((narL (2 * b) 2 (y ++ y)).length : Int) != ((2 * n : Nat) : Int)) = true); rw [hnl]; simp) ?_
    have hat : ∀ i : Nat, i < n → rd (narL (2 * b) 2 (y ++ y)) (i : Int) = nar (2 * b) 2 (rd y (i : Int)) := by
      intro i hi
      unfold narL
      rw [rd_map (by rw [List.length_append]; omega), rd_nat (y ++ y), List.getD_eq_getElem?_getD, List.getElem?_append_left (by omega), rd_nat, List.getD_eq_getElem?_getD]
    have hat2 : ∀ i : Nat, i < n → rd (narL (2 * b) 2 (y ++ y)) ((i + n : Nat) : Int) = nar (2 * b) 2 (rd y (i : Int)) := by
      intro i hi
      unfold narL
      rw [rd_map (by rw [List.length_append]; omega), rd_nat (y ++ y), List.getD_eq_getElem?_getD, List.getElem?_append_right (by omega), rd_nat, List.getD_eq_getElem?_getD, hy, Nat.add_sub_cancel]
    have hM : 16 ≤ M b ∧ M b ≤ 256 := by rcases hB with rfl | rfl <;> decide
    have e5 : IntKind.u64.wrap (wrap64 (b - 1)) = b - 1 := by rw [w_small (by omega), u_small (by omega)]
    have key : ∀ d i : Nat, i + d = n → Ev (fun k => laws_FnWidened.l0 k b (n : Int) y (narL (2 * b) 2 (y ++ y)) (i : Int)) true := by
      intro d
      induction d with
      | zero =>
        intro i hi
        refine ⟨1, fun k hk => ?_⟩
        obtain ⟨k, rfl⟩ : ∃ m, k = m + 1 := ⟨k - 1, by omega⟩
        show laws_FnWidened.l0 (k + 1) b (n : Int) y (narL (2 * b) 2 (y ++ y)) (i : Int) = _
        rw [wl0, if_neg (by omega)]
      | succ d ih =>
        intro i hi
        have hx := words_rd hyw (i := (i : Int)) (by omega) (by omega)
        exact Ev.step (fun k => wRound hB (by omega) hi.symm hy hnl hx ⟨hat i (by omega)⟩ ⟨hat2 i (by omega)⟩) (ih (i + 1) (by omega))
    exact key n 0 (by omega)
  by_cases hz : z = 1
  · refine ev_if hz ?_
    subst hz
    exact rest true 2 (by omega) (fun x hx => nar_signed hB hx)
  · refine ev_else hz ?_
    have e7 : (z == 1) = false := by simp [hz]
    rw [e7]
    exact rest false 1 (by omega) (fun x hx => nar_unsigned hB hx)

end Go.Proofs.Ytpcjjminopdofaa.Pure
