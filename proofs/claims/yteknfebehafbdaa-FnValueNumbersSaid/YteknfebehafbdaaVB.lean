/- What the draws of bytes give: bits, valid code, words for all cells. No condition but that bytes are bytes. -/
import Derived.OpenShut
import Derived.Test.YteknfebehafbdaaVO
import Derived.Test.YteknfebehafbdaaK0
import Derived.Test.YteknfebehafbdaaK2
import Derived.Test.YteknfebehafbdaaK5
import Derived.Test.YteknfebehafbdaaK6
namespace Go.Proofs.Yteknfebehafbdaa.V
open Go.RowKit Go.Proofs.Yteknfebehafbdaa.K Go.Proofs.Yteknfebehafbdaa.Bx Go.Proofs.YteknfebehafbdaaW.PrintWords Go.Proofs.YteknfebehafbdaaW.PrintLast
set_option linter.unusedVariables false
set_option linter.unusedSimpArgs false

def Bytes (l : List Int) : Prop := ∀ x ∈ l, 0 ≤ x ∧ x ≤ 255
theorem bytes_of {l : List Int} (h : ∀ x ∈ l, (Lit.int .u8 x).wf = true) : Bytes l := fun x hx => bounds_u8 (h x hx)
theorem and255 (n : Int) : 0 ≤ Go.bits .and .u64 n 255 ∧ Go.bits .and .u64 n 255 ≤ 255 := by
  have key := mask 8 (by decide) n
  have e : Go.bits .and .u64 n 255 = IntKind.u64.wrap (((BitVec.ofInt 64 n &&& BitVec.ofInt 64 (2 ^ 8 - 1)).toNat : Nat) : Int) := rfl
  rw [e, key, u_small (by omega)]
  omega
theorem next_ok {s : List Int} (hs : Bytes s) (p st : Int) (hp : 0 ≤ p ∧ p ≤ 1000000000) : ∃ v st' : Int, spec_l00Src_next.f s p st = some (v, p + 1, st') ∧ 0 ≤ v ∧ v ≤ 255 := by
  have hw : wrap64 (p + 1) = p + 1 := w_small (by omega)
  unfold spec_l00Src_next.f
  by_cases h1 : p < (s.length : Int)
  · have hv := hs _ (rd_mem hp.1 h1)
    rw [if_pos h1, if_pos hp.1, hw]
    by_cases h2 : p + 1 ≤ (s.length : Int)
    · rw [if_pos h2]
      exact ⟨_, _, rfl, by rw [w_small (by omega)]; exact hv⟩
    · exact absurd h1 (by omega)
  · rw [if_neg h1, hw]
    by_cases h2 : p + 1 ≤ (s.length : Int)
    · exact absurd h2 (by omega)
    · rw [if_neg h2]
      refine ⟨_, _, rfl, ?_⟩
      have := and255 ((IntKind.u64.wrap ((IntKind.u64.wrap ((IntKind.u64.wrap (st * 6364136223846793005)) + 0)) + 1442695040888963407)) / 1099511627776)
      rw [w_small (by omega)]
      exact this
theorem pick_ok {s : List Int} (hs : Bytes s) (p st n : Int) (hp : 0 ≤ p ∧ p ≤ 1000000) (hn : 1 ≤ n) : ∃ v p' st' : Int, spec_l00Src_pick.f s p st n = some (v, p', st') ∧ (0 ≤ v ∧ v < n) ∧ p ≤ p' ∧ p' ≤ p + 2 := by
  unfold spec_l00Src_pick.f
  by_cases h1 : n ≤ 1
  · rw [if_pos h1]
    exact ⟨_, _, _, rfl, by omega, by omega⟩
  · rw [if_neg h1]
    obtain ⟨v, st1, e1, hv⟩ := next_ok hs p st (by omega)
    rw [e1]
    show ∃ v' p' st', (if n > 200 then ((spec_l00Src_next.f s (p + 1) st1).bind fun bt136 => (if n = 0 then (none) else (some (Int.tmod (wrap64 ((wrap64 (v * 256)) + bt136.1)) n, bt136.2.1, bt136.2.2)))) else (if n = 0 then (none) else (some (Int.tmod v n, p + 1, st1)))) = some (v', p', st') ∧ _
    by_cases h2 : n > 200
    · rw [if_pos h2]
      obtain ⟨v2, st2, e2, hv2⟩ := next_ok hs (p + 1) st1 (by omega)
      rw [e2]
      have hx : wrap64 ((wrap64 (v * 256)) + v2) = v * 256 + v2 := by rw [w_small (n := v * 256) (by omega), w_small (by omega)]
      refine ⟨Int.tmod (wrap64 ((wrap64 (v * 256)) + v2)) n, p + 1 + 1, st2, ?_, ?_, by omega⟩
      · show (if n = 0 then none else _) = _
        rw [if_neg (by omega)]
      · rw [hx]
        exact ⟨Int.tmod_nonneg _ (by omega), Int.tmod_lt_of_pos _ (by omega)⟩
    · rw [if_neg h2, if_neg (by omega)]
      exact ⟨_, _, _, rfl, ⟨Int.tmod_nonneg _ (by omega), Int.tmod_lt_of_pos _ (by omega)⟩, by omega⟩
theorem among_ok {s : List Int} (hs : Bytes s) (p st : Int) (l : List Int) (hp : 0 ≤ p ∧ p ≤ 1000000) (hn : 1 ≤ l.length) : ∃ v p' st' : Int, spec_l00Src_among.f s p st l = some (v, p', st') ∧ v ∈ l ∧ p ≤ p' ∧ p' ≤ p + 2 := by
  obtain ⟨v, p', st', e, hv, hp'⟩ := pick_ok hs p st l.length hp (by omega)
  unfold spec_l00Src_among.f
  rw [e]
  refine ⟨rd l v, p', st', ?_, rd_mem hv.1 hv.2, hp'⟩
  show (if 0 ≤ v then (if v < (l.length : Int) then _ else none) else none) = _
  rw [if_pos hv.1, if_pos hv.2]
theorem one_ok {s : List Int} (hs : Bytes s) (p st n : Int) (hp : 0 ≤ p ∧ p ≤ 1000000) (hn : 1 ≤ n) : ∃ (b : Bool) (p' st' : Int), spec_l00Src_one.f s p st n = some (b, p', st') ∧ p ≤ p' ∧ p' ≤ p + 2 := by
  obtain ⟨v, p', st', e, hv, hp'⟩ := pick_ok hs p st n hp hn
  unfold spec_l00Src_one.f
  rw [e]
  exact ⟨_, _, _, rfl, hp'⟩
theorem drawBits {s : List Int} (hs : Bytes s) : ∃ b : Int, spec_B10Bits.f s = some b ∧ Bits b := by
  obtain ⟨v, p', st', e, hv, _⟩ := among_ok hs 0 0 [8, 4, 16] (by omega) (by decide)
  unfold spec_B10Bits.f spec_l00From.f
  refine ⟨v, ?_, ?_⟩
  · show ((spec_l00Src_among.f s 0 0 [8, 4, 16]).bind fun bt150 => some bt150.1) = _
    rw [e]; rfl
  · simp only [List.mem_cons, List.not_mem_nil, or_false] at hv
    unfold Bits
    omega
theorem uB {b : Int} (h : Bits b) : IntKind.u64.wrap b = b ∧ IntKind.u64.wrap (b - 1) = b - 1 := by
  have := b_bounds h
  exact ⟨u_small (by omega), u_small (by omega)⟩
theorem sized_ok {s : List Int} (hs : Bytes s) (few : Int) (hf : 1 ≤ few) : ∀ (n : Nat) (acc : List S58) (p st : Int), acc.length + n ≤ 1000 → 0 ≤ p ∧ p + 8 * (n : Int) ≤ 800000 → ∃ (l : List S58) (p' st' : Int), Ev (fun k => spec_l03DrawSized.l0 k (n : Int) few acc s p st) (acc ++ l, p', st') ∧ l.length = n ∧ ∀ x ∈ l, OpOk x.f0 ∧ (0 ≤ x.f1 ∧ x.f1 < few) ∧ (0 ≤ x.f2 ∧ x.f2 < few) ∧ (0 ≤ x.f3 ∧ x.f3 < few) := by
  intro n
  induction n with
  | zero =>
    intro acc p st _ _
    refine ⟨[], p, st, ⟨1, fun k hk => ?_⟩, rfl, fun x hx => absurd hx (by simp)⟩
    obtain ⟨k, rfl⟩ : ∃ m, k = m + 1 := ⟨k - 1, by omega⟩
    simp only [spec_l03DrawSized.l0]
    rw [if_neg (by omega), List.append_nil]
  | succ n ih =>
    intro acc p st ha hp
    obtain ⟨v0, p0, s0, e0, h0, q0⟩ := pick_ok hs p st 18 (by omega) (by omega)
    obtain ⟨v1, p1, s1, e1, h1, q1⟩ := pick_ok hs p0 s0 few (by omega) hf
    obtain ⟨v2, p2, s2, e2, h2, q2⟩ := pick_ok hs p1 s1 few (by omega) hf
    obtain ⟨v3, p3, s3, e3, h3, q3⟩ := pick_ok hs p2 s2 few (by omega) hf
    obtain ⟨l, p', st', hE, hl, hx⟩ := ih (acc ++ [⟨v0, v1, v2, v3⟩]) p3 s3 (by simp; omega) (by omega)
    refine ⟨⟨v0, v1, v2, v3⟩ :: l, p', st', Ev.step (fun k => ?_) (by simpa using hE), by simp [hl], fun x hm => ?_⟩
    · simp only [spec_l03DrawSized.l0]
      have hw : wrap64 (((n + 1 : Nat) : Int) - 1) = (n : Int) := by rw [w_small (by omega)]; omega
      rw [if_pos (by omega), e0, Option.bind_some, e1, Option.bind_some, e2, Option.bind_some, e3, Option.bind_some, if_pos (by omega), hw]
    · rcases List.mem_cons.mp hm with h | h
      · rw [h]
        exact ⟨⟨h0.1, by show v0 ≤ 17; omega⟩, h1, h2, h3⟩
      · exact hx x h
theorem cOk_of {l : List S58} (hl : l.length ≤ 16) (h : ∀ x ∈ l, OpOk x.f0 ∧ (0 ≤ x.f1 ∧ x.f1 ≤ 31) ∧ (0 ≤ x.f2 ∧ x.f2 ≤ 31) ∧ (0 ≤ x.f3 ∧ x.f3 ≤ 31)) : cOk l = true := by
  unfold cOk
  rw [Bool.and_eq_true, List.all_eq_true]
  refine ⟨decide_eq_true hl, fun j hj => ?_⟩
  have hj := List.mem_range.mp hj
  have hm : rd_T58 l (j : Int) ∈ l := by
    rw [rd58, List.getD_eq_getElem?_getD, List.getElem?_eq_getElem hj]
    exact List.getElem_mem hj
  obtain ⟨h0, h1, h2, h3⟩ := h _ hm
  unfold stOk
  rw [decide_eq_true h0, cellB_is.mpr h1, cellB_is.mpr h2, cellB_is.mpr h3]
  rfl
theorem drawCode {s : List Int} (hs : Bytes s) : ∃ l : List S58, Ev (fun k => spec_B10Code.f k s) l ∧ cOk l = true := by
  obtain ⟨n, p0, s0, e0, h0, q0⟩ := pick_ok hs 0 0 8 (by omega) (by omega)
  obtain ⟨b, p1, s1, e1, q1⟩ := one_ok hs p0 s0 16 (by omega) (by omega)
  obtain ⟨f, p2, s2, e2, h2, q2⟩ := pick_ok hs p1 s1 12 (by omega) (by omega)
  have hw : wrap64 (3 + f) = 3 + f := w_small (by omega)
  have fin : ∀ c : Nat, c ≤ 16 → ∃ (l : List S58) (p' st' : Int), Ev (fun k => spec_l03DrawSized.f k s p2 s2 (c : Int) (wrap64 (3 + f))) (l, p', st') ∧ cOk l = true := by
    intro c hc
    rw [hw]
    obtain ⟨l, p', st', hE, hl, hx⟩ := sized_ok hs (3 + f) (by omega) c [] p2 s2 (by simp; omega) (by omega)
    refine ⟨l, p', st', hE, cOk_of (by omega) (fun x hm => ?_)⟩
    obtain ⟨a0, a1, a2, a3⟩ := hx x hm
    exact ⟨a0, by omega, by omega, by omega⟩
  have hD : ∃ (l : List S58) (p' st' : Int), Ev (fun k => spec_l03DrawOk.f k s 0 0) (l, p', st') ∧ cOk l = true := by
    unfold spec_l03DrawOk.f
    cases b with
    | true =>
      obtain ⟨l, p', st', hE, hc⟩ := fin 16 (by omega)
      exact ⟨l, p', st', ev_eq e0 (ev_eq e1 (ev_if rfl (ev_eq e2 (Ev.bind hE (Ev.now _))))), hc⟩
    | false =>
      obtain ⟨l, p', st', hE, hc⟩ := fin n.toNat (by omega)
      rw [show ((n.toNat : Nat) : Int) = n by omega] at hE
      exact ⟨l, p', st', ev_eq e0 (ev_eq e1 (ev_else (show ¬ (false = true) by decide) (ev_eq e2 (Ev.bind hE (Ev.now _))))), hc⟩
  obtain ⟨l, p', st', hE, hc⟩ := hD
  refine ⟨l, ?_, hc⟩
  unfold spec_B10Code.f spec_l00From.f
  exact ev_some (Ev.bind hE (Ev.now _))
theorem cells_ok {s : List Int} (hs : Bytes s) (b : Int) (hb : Bits b) : ∀ (n c : Nat) (acc : List Int) (p st : Int), c + n = 32 → acc.length = c → Words b acc → 0 ≤ p ∧ p + 8 * (n : Int) ≤ 800000 → ∃ l : List Int, Ev (fun k => spec_B10Cells.l0 k b acc (c : Int) s p st) l ∧ l.length = 32 ∧ Words b l := by
  intro n
  induction n with
  | zero =>
    intro c acc p st hc ha hw _
    refine ⟨acc, ⟨1, fun k hk => ?_⟩, by omega, hw⟩
    obtain ⟨k, rfl⟩ : ∃ m, k = m + 1 := ⟨k - 1, by omega⟩
    simp only [spec_B10Cells.l0]
    rw [if_neg (by omega)]
  | succ n ih =>
    intro c acc p st hc ha hw hp
    have hM : 16 ≤ M b ∧ M b ≤ 65536 := by rcases hb with rfl | rfl | rfl <;> decide
    have hbb := b_bounds hb
    obtain ⟨v, p1, s1, e1, h1, q1⟩ := pick_ok hs p st (M b) (by omega) (by omega)
    obtain ⟨l, hE, hl, hx⟩ := ih (c + 1) (acc ++ [v]) p1 s1 (by omega) (by simp; omega) (fun x hm => by
      rcases List.mem_append.mp hm with h | h
      · exact hw x h
      · rw [List.mem_singleton.mp h]; exact ⟨hb, h1⟩) (by omega)
    refine ⟨l, Ev.step (fun k => ?_) hE, hl, hx⟩
    simp only [spec_B10Cells.l0]
    rw [if_pos (by omega), (uB hb).1, if_pos (by omega), shlB hb, e1, Option.bind_some, if_pos (by omega), w1 (by omega)]
theorem drawCells {s : List Int} (hs : Bytes s) {b : Int} (hb : Bits b) : ∃ l : List Int, Ev (fun k => spec_B10Cells.f k s b) l ∧ l.length = 32 ∧ Words b l := by
  unfold spec_B10Cells.f spec_l00From.f
  obtain ⟨l, hE, hl, hw⟩ := cells_ok hs b hb 32 0 [] 0 0 (by omega) rfl (fun x hx => absurd hx (by simp)) (by omega)
  exact ⟨l, ev_some hE, hl, hw⟩
end Go.Proofs.Yteknfebehafbdaa.V
