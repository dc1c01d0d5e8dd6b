/- For all arguments the law FnTurns answers true. No condition. -/
import Derived.Test.YtpcjjminopdofaaQD2
import Derived.Test.YtpcjjminopdofaaQDV
namespace Go.Proofs.Ytpcjjminopdofaa.Pure
open Go.RowKit Go.Proofs.Ytpcjjminopdofaa.K Go.Proofs.Ytpcjjminopdofaa.V Go.Proofs.Ytpcjjminopdofaa.Bx Go.Proofs.YtpcjjminopdofaaW.PrintWords Go.Proofs.YtpcjjminopdofaaW.PrintLast
set_option linter.unusedVariables false

theorem ilw_words {b : Int} {l m : List Int} (hl : Words b l) (hm : Words b m) (he : l.length = m.length) : Words b (ilw l m) := by
  intro x hx
  unfold ilw at hx
  obtain ⟨j, hj, rfl⟩ := List.mem_map.mp hx
  rw [List.mem_range] at hj
  unfold ilv
  split
  · exact words_rd hl (by omega) (by omega)
  · exact words_rd hm (by omega) (by omega)
theorem ilw_len (l m : List Int) : (ilw l m).length = 2 * l.length := by unfold ilw; simp
theorem dei_ilw (l m : List Int) (p : Nat) : dei p ((ilw l m).take l.length) ((ilw l m).drop l.length) = (List.range l.length).map fun (j : Nat) => rd (ilw l m) ((2 * j + p : Nat) : Int) := by
  unfold dei
  rw [List.take_append_drop, List.length_take, ilw_len, show min l.length (2 * l.length) = l.length by omega]
theorem dei_even {l m : List Int} : dei 0 ((ilw l m).take l.length) ((ilw l m).drop l.length) = l := by
  rw [dei_ilw]
  refine (List.map_congr_left fun j hj => ?_).trans (map_rd l)
  rw [List.mem_range] at hj
  unfold ilw
  rw [rd_map (by omega)]
  unfold ilv
  rw [if_pos (by omega), show (2 * j + 0) / 2 = j by omega]
theorem dei_odd {l m : List Int} (he : l.length = m.length) : dei 1 ((ilw l m).take l.length) ((ilw l m).drop l.length) = m := by
  rw [dei_ilw, he]
  refine (List.map_congr_left fun j hj => ?_).trans (map_rd m)
  rw [List.mem_range] at hj
  unfold ilw
  rw [rd_map (by omega)]
  unfold ilv
  rw [if_neg (by omega), show (2 * j + 1) / 2 = j by omega]
theorem win_rd (l m : List Int) (t n i : Nat) (hi : i < n) : rd (((l ++ m).drop t).take n) (i : Int) = if t + i < l.length then rd l ((t + i : Nat) : Int) else rd m ((t + i - l.length : Nat) : Int) := by
  rw [rd_nat, List.getD_eq_getElem?_getD, List.getElem?_take, if_pos hi, List.getElem?_drop]
  split
  · rw [List.getElem?_append_left (by omega), rd_nat, List.getD_eq_getElem?_getD]
  · rw [List.getElem?_append_right (by omega), rd_nat, List.getD_eq_getElem?_getD]
theorem tl0 (k : Nat) (x6 : Int) (x7 : List Int) (x8 : List Int) (x15 : Int) (x16 : List Int) (x18 : List Int) (x20 : Int) : laws_FnTurns.l0 (k + 1) x6 x7 x8 x15 x16 x18 x20 = (if x20 < x6 then (if (wrap64 (x20 + x15)) < x6 then (if 0 ≤ x20 then (if x20 < (x16.length : Int) then (if 0 ≤ (wrap64 (x20 + x15)) then (if (wrap64 (x20 + x15)) < (x7.length : Int) then (if (rd x16 x20) = (rd x7 (wrap64 (x20 + x15))) then (if x20 < (x18.length : Int) then (if (wrap64 (x20 + x15)) < (x8.length : Int) then (if (rd x18 x20) = (rd x8 (wrap64 (x20 + x15))) then (if (wrap64 (x20 + x15)) ≥ x6 then (if 0 ≤ (wrap64 ((wrap64 (x20 + x15)) - x6)) then (if (wrap64 ((wrap64 (x20 + x15)) - x6)) < (x8.length : Int) then (if (rd x16 x20) = (rd x8 (wrap64 ((wrap64 (x20 + x15)) - x6))) then (if (wrap64 ((wrap64 (x20 + x15)) - x6)) < (x7.length : Int) then (if (rd x18 x20) = (rd x7 (wrap64 ((wrap64 (x20 + x15)) - x6))) then (laws_FnTurns.l0 k x6 x7 x8 x15 x16 x18 (wrap64 (x20 + 1))) else (some false)) else (none)) else (some false)) else (none)) else (none)) else (laws_FnTurns.l0 k x6 x7 x8 x15 x16 x18 (wrap64 (x20 + 1)))) else (some false)) else (none)) else (none)) else (some false)) else (none)) else (none)) else (none)) else (none)) else (if (wrap64 (x20 + x15)) ≥ x6 then (if 0 ≤ x20 then (if x20 < (x16.length : Int) then (if 0 ≤ (wrap64 ((wrap64 (x20 + x15)) - x6)) then (if (wrap64 ((wrap64 (x20 + x15)) - x6)) < (x8.length : Int) then (if (rd x16 x20) = (rd x8 (wrap64 ((wrap64 (x20 + x15)) - x6))) then (if x20 < (x18.length : Int) then (if (wrap64 ((wrap64 (x20 + x15)) - x6)) < (x7.length : Int) then (if (rd x18 x20) = (rd x7 (wrap64 ((wrap64 (x20 + x15)) - x6))) then (laws_FnTurns.l0 k x6 x7 x8 x15 x16 x18 (wrap64 (x20 + 1))) else (some false)) else (none)) else (none)) else (some false)) else (none)) else (none)) else (none)) else (none)) else (laws_FnTurns.l0 k x6 x7 x8 x15 x16 x18 (wrap64 (x20 + 1))))) else (some true)) := rfl
theorem tRound {k n t i : Nat} {a b s r : List Int} (hn : n ≤ 16) (hi : i < n) (ht : t ≤ n) (ha : a.length = n) (hb : b.length = n) (hs : s.length = n) (hr : r.length = n)
    (H1 : Aside0 (i + t < n → rd s (i : Int) = rd a ((i + t : Nat) : Int) ∧ rd r (i : Int) = rd b ((i + t : Nat) : Int))) (H2 : Aside0 (¬ i + t < n → rd s (i : Int) = rd b ((i + t - n : Nat) : Int) ∧ rd r (i : Int) = rd a ((i + t - n : Nat) : Int))) :
    laws_FnTurns.l0 (k + 1) (n : Int) a b (t : Int) s r (i : Int) = laws_FnTurns.l0 k (n : Int) a b (t : Int) s r ((i + 1 : Nat) : Int) := by
  have e0 : wrap64 ((i : Int) + 1) = ((i + 1 : Nat) : Int) := w1 (by omega)
  have e1 : wrap64 ((i : Int) + (t : Int)) = ((i + t : Nat) : Int) := by rw [w_small (by omega)]; omega
  have p1 : (i : Int) < (n : Int) := by omega
  have p2 : 0 ≤ (i : Int) := by omega
  have p3 : (i : Int) < (s.length : Int) := by omega
  have p4 : (i : Int) < (r.length : Int) := by omega
  have p5 : 0 ≤ ((i + t : Nat) : Int) := by omega
  rw [← e0, tl0]
  generalize laws_FnTurns.l0 k (n : Int) a b (t : Int) s r (wrap64 ((i : Int) + 1)) = C
  rw [if_pos p1, e1]
  by_cases c : i + t < n
  · have c1 : ((i + t : Nat) : Int) < (n : Int) := by omega
    have c2 : ¬ ((i + t : Nat) : Int) ≥ (n : Int) := by omega
    have c3 : ((i + t : Nat) : Int) < (a.length : Int) := by omega
    have c4 : ((i + t : Nat) : Int) < (b.length : Int) := by omega
    rw [if_pos c1, if_pos p2, if_pos p3, if_pos p5, if_pos c3, if_pos (H1.out c).1, if_pos p4, if_pos c4, if_pos (H1.out c).2, if_neg c2]
  · have c1 : ¬ ((i + t : Nat) : Int) < (n : Int) := by omega
    have c2 : ((i + t : Nat) : Int) ≥ (n : Int) := by omega
    have e2 : wrap64 (((i + t : Nat) : Int) - (n : Int)) = ((i + t - n : Nat) : Int) := by rw [w_small (by omega)]; omega
    have c3 : ((i + t - n : Nat) : Int) < (a.length : Int) := by omega
    have c4 : ((i + t - n : Nat) : Int) < (b.length : Int) := by omega
    have c5 : 0 ≤ ((i + t - n : Nat) : Int) := by omega
    rw [if_neg c1, if_pos c2, if_pos p2, if_pos p3, e2, if_pos c5, if_pos c4, if_pos (H2.out c).1, if_pos p4, if_pos c3, if_pos (H2.out c).2]
theorem FnTurns : laws_FnTurns.Pure := by
  intro l0 l1 _ _ h0 _ _ h1
  refine Ev.rounds (g := fun k => laws_FnTurns.f k l0 l1) ?_
  have b0 := bytes_of h0
  have b1 := bytes_of h1
  unfold laws_FnTurns.f
  have hlong : ∃ t, laws_r8Long.f l0 l1 = some t := by
    unfold laws_r8Long.f
    split <;> exact ⟨_, rfl⟩
  obtain ⟨t, ht⟩ := hlong
  refine ev_eq ht ?_
  by_cases htt : t = true
  · exact ev_if htt (Ev.now _)
  refine ev_else htt ?_
  obtain ⟨b, eb, hb⟩ := drawBits b0
  refine ev_eq eb ?_
  obtain ⟨n, en, hn⟩ := drawLanes b1
  refine ev_eq en ?_
  have h16 := lanes_le hn
  obtain ⟨l, el, hl, hwl⟩ := drawVector b0 b hb n (by omega)
  refine Ev.bind el ?_
  obtain ⟨m, em, hm, hwm⟩ := drawVector b1 b hb n (by omega)
  refine Ev.bind em ?_
  have he : l.length = m.length := by omega
  have vl : vec b l = true := vec_iff.mpr ⟨hb, by rw [hl]; exact hn, hwl⟩
  have vm : vec b m = true := vec_iff.mpr ⟨hb, by rw [hm]; exact hn, hwm⟩
  have hv1 : vecs b [l, m] = true := by rw [vecs_two]; unfold both; rw [vl, vm, decide_eq_true he]; rfl
  have hv2 : vecs b [m, l] = true := by rw [vecs_two]; unfold both; rw [vl, vm, decide_eq_true he.symm]; rfl
  have hI : Ev (fun k => impl_InterleaveLanes.f k b l m) ((ilw l m).take l.length, (ilw l m).drop l.length, true) := ⟨0, fun k _ => by unfold impl_InterleaveLanes.f; rw [if_pos hv1]⟩
  refine Ev.bind hI ?_
  have hiw := ilw_words hwl hwm he
  have q1 : ((ilw l m).take l.length).length = n := by rw [List.length_take, ilw_len]; omega
  have q2 : ((ilw l m).drop l.length).length = n := by rw [List.length_drop, ilw_len]; omega
  have hv3 : vecs b [(ilw l m).take l.length, (ilw l m).drop l.length] = true := by
    have v1 : vec b ((ilw l m).take l.length) = true := vec_iff.mpr ⟨hb, by rw [q1]; exact hn, fun x hx => hiw x (List.mem_of_mem_take hx)⟩
    have v2 : vec b ((ilw l m).drop l.length) = true := vec_iff.mpr ⟨hb, by rw [q2]; exact hn, fun x hx => hiw x (List.mem_of_mem_drop hx)⟩
    rw [vecs_two]
    unfold both
    rw [v1, v2, q1, q2]
    simp
  have hD : Ev (fun k => impl_DeinterleaveLanes.f k b ((ilw l m).take l.length) ((ilw l m).drop l.length)) (l, m, true) := ⟨0, fun k _ => by unfold impl_DeinterleaveLanes.f; rw [if_pos hv3, dei_even, dei_odd he]⟩
  refine Ev.bind hD ?_
  have e1 : wrap64 ((n : Int) + 1) = ((n + 1 : Nat) : Int) := w1 (by omega)
  rw [e1]
  obtain ⟨u, eu, hu0, hu1⟩ := r8At b1 30 ((n + 1 : Nat) : Int) (by omega) (by omega)
  refine ev_eq eu ?_
  obtain ⟨s, rfl⟩ : ∃ s : Nat, u = s := ⟨u.toNat, by omega⟩
  have hs1 : Ev (fun k => impl_SlideLanes.f k b l m (s : Int)) (((l ++ m).drop s).take l.length, true) := ⟨0, fun k _ => by unfold impl_SlideLanes.f; rw [if_pos ⟨hv1, by omega, by omega⟩, Int.toNat_natCast]⟩
  have hs2 : Ev (fun k => impl_SlideLanes.f k b m l (s : Int)) (((m ++ l).drop s).take m.length, true) := ⟨0, fun k _ => by unfold impl_SlideLanes.f; rw [if_pos ⟨hv2, by omega, by omega⟩, Int.toNat_natCast]⟩
  have w1l : (((l ++ m).drop s).take l.length).length = n := by rw [List.length_take, List.length_drop, List.length_append]; omega
  have w2l : (((m ++ l).drop s).take m.length).length = n := by rw [List.length_take, List.length_drop, List.length_append]; omega
  refine Ev.bind hs1 (Ev.bind hs2 (ev_if rfl (ev_if rfl (ev_if rfl (ev_if rfl (Ev.bind (r8Same l (by omega)) (ev_if rfl (Ev.bind (r8Same m (by omega)) (ev_if rfl (ev_if (by rw [w1l, hl]) ?_))))))))))
  have w1r : ∀ i : Nat, i < n → rd (((l ++ m).drop s).take l.length) (i : Int) = if s + i < n then rd l ((s + i : Nat) : Int) else rd m ((s + i - n : Nat) : Int) := fun i hi => by rw [win_rd _ _ _ _ _ (by omega), hl]
  have w2r : ∀ i : Nat, i < n → rd (((m ++ l).drop s).take m.length) (i : Int) = if s + i < n then rd m ((s + i : Nat) : Int) else rd l ((s + i - n : Nat) : Int) := fun i hi => by rw [win_rd _ _ _ _ _ (by omega), hm]
  refine Ev.step (fun k => by rw [laws_FnTurns.j0]) ?_
  refine ev_else (by show ¬ (((((m ++ l).drop s).take m.length).length : Int) != (l.length : Int)) = true; rw [w2l, hl]; simp) ?_
  show Ev (fun k => laws_FnTurns.l0 k (n : Int) l m (s : Int) (((l ++ m).drop s).take l.length) (((m ++ l).drop s).take m.length) 0) true
  generalize ((l ++ m).drop s).take l.length = x at w1l w1r ⊢
  generalize ((m ++ l).drop s).take m.length = y at w2l w2r ⊢
  have key : ∀ d i : Nat, i + d = n → Ev (fun k => laws_FnTurns.l0 k (n : Int) l m (s : Int) x y (i : Int)) true := by
    intro d
    induction d with
    | zero =>
      intro i hi
      refine ⟨1, fun k hk => ?_⟩
      obtain ⟨k, rfl⟩ : ∃ m, k = m + 1 := ⟨k - 1, by omega⟩
      show laws_FnTurns.l0 (k + 1) (n : Int) l m (s : Int) x y (i : Int) = _
      rw [tl0, if_neg (by omega)]
    | succ d ih =>
      intro i hi
      refine Ev.step (fun k => tRound (by omega) (by omega) (by omega) hl hm w1l w2l ⟨fun hc => ?_⟩ ⟨fun hc => ?_⟩) (ih (i + 1) (by omega))
      · rw [w1r i (by omega), w2r i (by omega), if_pos (by omega), if_pos (by omega), Nat.add_comm s i]
        exact ⟨rfl, rfl⟩
      · rw [w1r i (by omega), w2r i (by omega), if_neg (by omega), if_neg (by omega), Nat.add_comm s i]
        exact ⟨rfl, rfl⟩
  exact key n 0 (by omega)

end Go.Proofs.Ytpcjjminopdofaa.Pure
