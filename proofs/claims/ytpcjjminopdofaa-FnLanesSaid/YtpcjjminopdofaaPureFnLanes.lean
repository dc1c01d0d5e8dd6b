/- For all arguments the law FnLanes answers true. No condition. -/
import Derived.Test.YtpcjjminopdofaaQLA2
import Derived.Test.YtpcjjminopdofaaQLAV
namespace Go.Proofs.Ytpcjjminopdofaa.Pure
open Go.RowKit Go.Proofs.Ytpcjjminopdofaa.K Go.Proofs.Ytpcjjminopdofaa.V Go.Proofs.Ytpcjjminopdofaa.Bx Go.Proofs.YtpcjjminopdofaaW.PrintWords Go.Proofs.YtpcjjminopdofaaW.PrintLast
set_option linter.unusedVariables false

theorem mask_draw {s : List Int} (hs : Bytes s) : ∀ (n : Nat) (m : Nat) (acc : List Int) (p st : Int), acc.length + n = m → m ≤ 1000 → 0 ≤ p ∧ p + 2 * (n : Int) ≤ 800000 → ∃ l : List Int, Ev (fun k => spec_R8Mask.l0 k (m : Int) acc (acc.length : Int) s p st) (acc ++ l) ∧ l.length = n ∧ ∀ x ∈ l, x = 0 ∨ x = 1 := by
  intro n
  induction n with
  | zero =>
    intro m acc p st hm _ _
    refine ⟨[], ⟨1, fun k hk => ?_⟩, rfl, fun x hx => by cases hx⟩
    obtain ⟨k, rfl⟩ : ∃ m, k = m + 1 := ⟨k - 1, by omega⟩
    simp only [spec_R8Mask.l0]
    rw [if_neg (by omega), List.append_nil]
  | succ n ih =>
    intro m acc p st hm h1000 hp
    obtain ⟨x, p1, st1, e1, hx, hp1⟩ := pick_ok hs p st 2 (by omega) (by omega)
    obtain ⟨l, e2, hl, hw⟩ := ih m (acc ++ [x]) p1 st1 (by rw [List.length_append, List.length_singleton]; omega) h1000 (by omega)
    refine ⟨x :: l, Ev.step (f := fun k => spec_R8Mask.l0 k (m : Int) (acc ++ [x]) ((acc ++ [x]).length : Int) s p1 st1) (fun k => ?_) ?_, by rw [List.length_cons, hl], fun y hy => ?_⟩
    · simp only [spec_R8Mask.l0]
      rw [if_pos (by omega), e1, Option.bind_some, if_pos (by omega), w1 (by omega), show (((acc ++ [x]).length : Nat) : Int) = ((acc.length + 1 : Nat) : Int) by rw [List.length_append, List.length_singleton]]
    · rw [List.append_assoc] at e2
      exact e2
    · rcases List.mem_cons.mp hy with rfl | h
      · omega
      · exact hw y h
theorem drawMask {s : List Int} (hs : Bytes s) (n : Nat) (hn : n ≤ 1000) : ∃ l : List Int, Ev (fun k => spec_R8Mask.f k s (n : Int)) l ∧ l.length = n ∧ ∀ x ∈ l, x = 0 ∨ x = 1 := by
  obtain ⟨l, e, hl, hw⟩ := mask_draw hs n n [] 0 0 (by simp) hn (by omega)
  refine ⟨l, ?_, hl, hw⟩
  unfold spec_R8Mask.f spec_l00From.f
  exact Ev.bind (Ev.now (s, (0 : Int), (0 : Int))) e
theorem lanes_do {c b x y : Int} (hc : OpOk c) (hx : Word b x) (hy : Word b y) : impl_DoOp.f c b x y = some (res c b x y, true) := by
  rw [iDoOp]; unfold doOp; rw [if_pos ⟨hc, hx, hy⟩]
theorem lanes_cmp {c b x y : Int} (hc : 0 ≤ c ∧ c ≤ 5) (hx : Word b x) (hy : Word b y) : impl_TestCmp.f c b x y = some (cmpB c b x y, true) := by
  rw [iTestCmp]; unfold testCmp; rw [if_pos ⟨hc, hx, hy⟩]
theorem lanes_word {b n : Int} (hb : Bits b) (hn : isVal n) : impl_WordOf.f b n = some (n % M b, true) := by
  rw [iWordOf]; unfold wordOf; rw [if_pos ⟨hb, hn⟩]
theorem toI_one (b : Bool) : (toI b == 1) = b := by cases b <;> rfl
theorem j2_go {k : Nat} {b : Int} {a c m : List Int} {op cmp : Int} {out kept test chosen ramp : List Int} {count first : Int} {seven : Bool} {n sum i x : Int} {yes : Bool}
    (h0 : 0 ≤ i) (hm : i < (m.length : Int)) (hk : i < (kept.length : Int)) (hc : i < (c.length : Int)) (ha : i < (a.length : Int)) (ht : i < (test.length : Int)) (hs : i < (chosen.length : Int))
    (em : rd m i = 0 ∨ rd m i = 1) (ek : rd kept i = sel (rd m i) x (rd c i)) (et : rd test i = toI yes) (es : rd chosen i = sel (rd test i) (rd a i) (rd c i)) (ef : seven = true → yes = true → ¬ i < first) :
    laws_FnLanes.j2 (k + 1) b a c m op cmp out kept test chosen ramp count first seven n sum i x yes false = laws_FnLanes.l0 k b a c m op cmp out kept test chosen ramp count first seven n sum (wrap64 (i + 1)) := by
  simp only [laws_FnLanes.j2]
  rw [et] at es
  rcases em with em | em <;> cases yes <;> cases seven <;> simp only [sel, toI, em] at ek es et <;> simp_all <;> (intro hh; exact absurd hh (by omega))
theorem FnLanes : laws_FnLanes.Pure := by
  intro l0 l1 _ _ h0 _ _ h1
  refine Ev.rounds (g := fun k => laws_FnLanes.f k l0 l1) ?_
  have b0 := bytes_of h0
  have b1 := bytes_of h1
  unfold laws_FnLanes.f
  have hlong : ∃ t, laws_r8Long.f l0 l1 = some t := by
    unfold laws_r8Long.f
    split <;> exact ⟨_, rfl⟩
  obtain ⟨t, ht⟩ := hlong
  refine ev_eq ht ?_
  by_cases htt : t = true
  · exact ev_if htt (Ev.now _)
  refine ev_else htt ?_
  obtain ⟨b, eb, hb⟩ := drawBits b0
  refine ev_eq eb ?_
  obtain ⟨n, en, hn⟩ := drawLanes b1
  refine ev_eq en ?_
  have h16 := lanes_le hn
  obtain ⟨a, ea, hal, haw⟩ := drawVector b0 b hb n (by omega)
  refine Ev.bind ea ?_
  obtain ⟨c, ec, hcl, hcw⟩ := drawVector b1 b hb n (by omega)
  refine Ev.bind ec ?_
  obtain ⟨m, em, hml, hmw⟩ := drawMask b1 n (by omega)
  refine Ev.bind em ?_
  obtain ⟨op, eo, ho0, ho1⟩ := r8At b1 20 18 (by omega) (by omega)
  refine ev_eq eo ?_
  have ho : OpOk op := ⟨ho0, by omega⟩
  obtain ⟨cmp, ecm, hc0, hc1⟩ := r8At b1 21 6 (by omega) (by omega)
  refine ev_eq ecm ?_
  have hcm : 0 ≤ cmp ∧ cmp ≤ 5 := ⟨hc0, by omega⟩
  have hboth : both b a c = true := by
    unfold both
    rw [Bool.and_eq_true, Bool.and_eq_true, decide_eq_true_eq, vec_iff, vec_iff, hal, hcl]
    exact ⟨⟨⟨hb, hn, haw⟩, ⟨hb, hn, hcw⟩⟩, rfl⟩
  have hboth2 : both b a a = true := by
    unfold both
    rw [Bool.and_eq_true, Bool.and_eq_true, decide_eq_true_eq, vec_iff, hal]
    exact ⟨⟨⟨hb, hn, haw⟩, ⟨hb, hn, haw⟩⟩, rfl⟩
  have hmm : msk m = true := msk_iff.mpr ⟨by rw [hml]; exact hn, hmw⟩
  have hO : ∃ out : List Int, Ev (fun k => impl_LaneWise.f k op b a c) (out, true) ∧ out.length = n ∧ ∀ j : Nat, j < n → rd out (j : Int) = res op b (rd a (j : Int)) (rd c (j : Int)) := by
    refine ⟨(List.range a.length).map fun (j : Nat) => res op b (rd a (j : Int)) (rd c (j : Int)), ?_, ?_, fun j hj => rd_map (by omega)⟩
    · unfold impl_LaneWise.f
      exact ev_eq (iOp op) (ev_if (decide_eq_true ho) (Ev.bind (Ev.now (vecs b [a, c])) (ev_if ((vecs_two b a c).trans hboth) (Ev.bind (iWise ho haw hcw (by omega) (by omega)) (Ev.now _)))))
    · simp [hal]
  obtain ⟨out, hO, hol, hor⟩ := hO
  have hK : ∃ kept : List Int, Ev (fun k => impl_LaneWiseMasked.f k op b m c a c) (kept, true) ∧ kept.length = n ∧ ∀ j : Nat, j < n → rd kept (j : Int) = sel (rd m (j : Int)) (res op b (rd a (j : Int)) (rd c (j : Int))) (rd c (j : Int)) := by
    generalize hT : ((List.range a.length).map fun (j : Nat) => res op b (rd a (j : Int)) (rd c (j : Int))) = T
    have hTl : T.length = n := by rw [← hT]; simp [hal]
    refine ⟨(List.range T.length).map fun (j : Nat) => sel (rd m (j : Int)) (rd T (j : Int)) (rd c (j : Int)), ?_, by simp [hTl], fun j hj => ?_⟩
    · unfold impl_LaneWiseMasked.f
      refine ev_eq (iOp op) (ev_if (decide_eq_true ho) (Ev.bind (iMasked b m c [a, c]) ?_))
      refine Ev.step (fun k => by rw [impl_LaneWiseMasked.j0]) ?_
      refine ev_else (by rw [masked_three, hboth, hmm, hml, hal]; simp) (Ev.bind (iWise ho haw hcw (by omega) (by omega)) ?_)
      rw [hT]
      exact Ev.bind (iSelected (by omega) (by omega) (by omega)) (Ev.now _)
    · rw [rd_map (by omega)]
      rw [← hT, rd_map (by omega)]
  obtain ⟨kept, hK, hkl, hkr⟩ := hK
  have hC : ∃ test : List Int, Ev (fun k => impl_CompareLanes.f k cmp b a c) (test, true) ∧ test.length = n ∧ ∀ j : Nat, j < n → rd test (j : Int) = toI (cmpB cmp b (rd a (j : Int)) (rd c (j : Int))) := by
    refine ⟨(List.range a.length).map fun (j : Nat) => toI (cmpB cmp b (rd a (j : Int)) (rd c (j : Int))), ?_, ?_, fun j hj => rd_map (by omega)⟩
    · unfold impl_CompareLanes.f
      exact ev_eq (iCmp cmp) (ev_if (decide_eq_true hcm) (Ev.bind (Ev.now (vecs b [a, c])) (ev_if ((vecs_two b a c).trans hboth) (Ev.bind (iCompared haw hcw (by omega) (by omega)) (Ev.now _)))))
    · simp [hal]
  obtain ⟨test, hC, htl, htr⟩ := hC
  have htm : msk test = true := msk_iff.mpr ⟨by rw [htl]; exact hn, fun x hx => by
    obtain ⟨j, hj, rfl⟩ := mem_rd hx
    rw [htr j (by omega)]
    unfold toI
    split
    · exact Or.inr rfl
    · exact Or.inl rfl⟩
  have hS : ∃ chosen : List Int, Ev (fun k => impl_SelectLanes.f k b test a c) (chosen, true) ∧ chosen.length = n ∧ ∀ j : Nat, j < n → rd chosen (j : Int) = sel (rd test (j : Int)) (rd a (j : Int)) (rd c (j : Int)) := by
    refine ⟨(List.range a.length).map fun (j : Nat) => sel (rd test (j : Int)) (rd a (j : Int)) (rd c (j : Int)), ?_, ?_, fun j hj => rd_map (by omega)⟩
    · unfold impl_SelectLanes.f
      exact Ev.bind (iMasked b test a [c]) (ev_if (by rw [masked_two, hboth, htm, htl, hal]; simp) (Ev.bind (iSelected (by omega) (by omega) (by omega)) (Ev.now _)))
    · simp [hal]
  obtain ⟨chosen, hS, hsl, hsr⟩ := hS
  have ha0 : Word b (rd a 0) := words_rd haw (by omega) (by omega)
  have hc0' : Word b (rd c 0) := words_rd hcw (by omega) (by omega)
  have hR : ∃ rmp : List Int, Ev (fun k => impl_RampLanes.f k b (n : Int) (rd a 0) (rd c 0)) (rmp, true) ∧ rmp.length = n ∧ ∀ j : Nat, j < n → rd rmp (j : Int) = (rd a 0 + (j : Int) * rd c 0) % M b := by
    refine ⟨(List.range n).map fun (j : Nat) => (rd a 0 + (j : Int) * rd c 0) % M b, ?_, by simp, fun j hj => rd_map hj⟩
    have e : ramp b (n : Int) (rd a 0) (rd c 0) = ((List.range n).map fun (j : Nat) => (rd a 0 + (j : Int) * rd c 0) % M b, true) := by
      unfold ramp
      rw [if_pos ⟨⟨ha0, hc0'⟩, hn⟩, Int.toNat_natCast]
    rw [← e]
    exact Ev.now _
  obtain ⟨rmp, hR, hrl, hrr⟩ := hR
  have hN : Ev (fun k => impl_CountLanes.f k test) (sw test test.length, true) := by
    unfold impl_CountLanes.f
    exact Ev.bind (Ev.now (msk test)) (ev_if htm (Ev.bind (iSum test (by omega)) (Ev.now _)))
  obtain ⟨_, hat⟩ := mask_at test htm
  obtain ⟨hsw0, _, hz⟩ := sw_mask test htm test.length (Nat.le_refl _)
  have hF : ∃ (first : Int) (seven : Bool), Ev (fun k => impl_FirstLane.f k test) (first, seven) ∧ seven = decide (sw test test.length > 0) ∧ (seven = true → 0 ≤ first ∧ first < (n : Int) ∧ rd test first = 1 ∧ ∀ j : Nat, (j : Int) < first → rd test (j : Int) ≠ 1) := by
    obtain ⟨v, hv, hcs⟩ := iIndex test (by omega)
    rcases hcs with ⟨e, hno⟩ | ⟨i, hi, e, hi1, hno⟩
    · have h00 : sw test test.length = 0 := hz.mpr fun j hj => (hat j hj).resolve_right (hno j hj)
      refine ⟨0, false, ?_, by rw [h00]; rfl, fun h => by cases h⟩
      unfold impl_FirstLane.f
      subst e
      exact Ev.bind hv (Ev.bind (Ev.now (msk test)) (ev_if htm (ev_if (by omega) (Ev.now _))))
    · have h00 : ¬ sw test test.length = 0 := fun hh => by
        have := hz.mp hh i hi
        omega
      refine ⟨(i : Int), true, ?_, (decide_eq_true (by omega)).symm, fun _ => ⟨by omega, by omega, hi1, fun j hj => hno j (by omega)⟩⟩
      unfold impl_FirstLane.f
      subst e
      exact Ev.bind hv (Ev.bind (Ev.now (msk test)) (ev_if htm (ev_else (by omega) (Ev.now _))))
  obtain ⟨first, seven, hF, hse, hfi⟩ := hF
  have key : ∀ d i : Nat, i + d = n → Ev (fun k => laws_FnLanes.l0 k b a c m op cmp out kept test chosen rmp (sw test test.length) first seven (n : Int) (sw test i) (i : Int)) true := by
    intro d
    induction d with
    | zero =>
      intro i hi
      refine ⟨1, fun k hk => ?_⟩
      obtain ⟨k, rfl⟩ : ∃ m, k = m + 1 := ⟨k - 1, by omega⟩
      simp only [laws_FnLanes.l0]
      rw [if_neg (by omega), show i = test.length by omega, beq_self_eq_true]
    | succ d ih =>
      intro i hi
      have hai : Word b (rd a (i : Int)) := words_rd haw (by omega) (by omega)
      have hci : Word b (rd c (i : Int)) := words_rd hcw (by omega) (by omega)
      have hM := @M_le b
      have hp : (i : Int) * rd c 0 ≤ 16 * 65536 := Int.mul_le_mul (by omega) (by have := hc0'.2.2; omega) hc0'.2.1 (by omega)
      have hp0 : 0 ≤ (i : Int) * rd c 0 := Int.mul_nonneg (by omega) hc0'.2.1
      have hx1 := ha0.2
      refine Ev.step (f := fun k => laws_FnLanes.j2 k b a c m op cmp out kept test chosen rmp (sw test test.length) first seven (n : Int) (sw test (i + 1)) (i : Int) (res op b (rd a (i : Int)) (rd c (i : Int))) (cmpB cmp b (rd a (i : Int)) (rd c (i : Int))) false) (fun k => ?_) ?_
      · simp only [laws_FnLanes.l0]
        rw [if_pos (by omega), if_pos (by omega), if_pos (by omega), if_pos (by omega), lanes_do ho hai hci, Option.bind_some, lanes_cmp hcm hai hci, Option.bind_some, if_pos (by omega), if_pos (by omega), w_small (n := (i : Int) * rd c 0) (by omega), w_small (n := rd a 0 + (i : Int) * rd c 0) (by omega), lanes_word hb ⟨by omega, by omega⟩, Option.bind_some, if_pos (by omega), if_pos rfl, if_pos rfl, if_pos rfl, if_pos (by omega), if_pos (hor i (by omega)), if_neg (by rw [htr i (by omega), toI_one]; exact ne_self _), if_pos (by omega), hrr i (by omega), bne_self_eq_false]
        rfl
      · refine Ev.step (fun k => j2_go (by omega) (by omega) (by omega) (by omega) (by omega) (by omega) (by omega) (hmw _ (rd_mem (by omega) (by omega))) (hkr i (by omega)) (htr i (by omega)) (hsr i (by omega)) (fun h7 hy hlt => ?_)) ?_
        · have := (hfi h7).2.2.2 i hlt
          rw [htr i (by omega), hy] at this
          exact this rfl
        · have := ih (i + 1) (by omega)
          refine this.congr ?_
          intro k
          rw [w1 (by omega)]
  refine Ev.bind hO (Ev.bind hK (Ev.bind hC (Ev.bind hS (ev_if (by omega) (ev_if (by omega) (Ev.bind hR (Ev.bind hN (Ev.bind hF (ev_if rfl (ev_if rfl (ev_if rfl (ev_if rfl (ev_if rfl (ev_if rfl (ev_if (by show (out.length : Int) = (n : Int); omega) (ev_if (by show (kept.length : Int) = (n : Int); omega) (ev_if (by show (test.length : Int) = (n : Int); omega) (ev_if (by show (chosen.length : Int) = (n : Int); omega) (ev_if (by show (rmp.length : Int) = (n : Int); omega) (ev_else (by rw [hse]; exact ne_self _) ?_))))))))))))))))))))
  have hj : Ev (fun k => laws_FnLanes.j0 k b a c m op cmp out kept test chosen rmp (sw test test.length) first seven (n : Int) false) true := by
    refine Ev.step (fun k => by rw [laws_FnLanes.j0]) ?_
    exact ev_else (fun h => nomatch h) (key n 0 (by omega))
  by_cases h7 : seven = true
  · obtain ⟨f0, f1, f2, f3⟩ := hfi h7
    refine ev_if h7 (ev_else (by omega) (ev_else (by omega) (ev_if f0 (ev_if (by show first < (test.length : Int); omega) ?_))))
    rw [f2, bne_self_eq_false]
    exact hj
  · exact ev_else h7 hj

end Go.Proofs.Ytpcjjminopdofaa.Pure
