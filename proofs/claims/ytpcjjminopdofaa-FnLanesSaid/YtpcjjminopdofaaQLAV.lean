/- Plain theorems of this claim. Their conditions stand with each. -/
import Derived.OpenShut
import Derived.Test.YtpcjjminopdofaaB0
import Derived.Test.YtpcjjminopdofaaK0
import Derived.Test.YtpcjjminopdofaaQLA0
import Derived.Test.YtpcjjminopdofaaQLA1
namespace Go.Proofs.Ytpcjjminopdofaa.V
open Go.RowKit Go.Proofs.Ytpcjjminopdofaa.K Go.Proofs.Ytpcjjminopdofaa.Bx Go.Proofs.YtpcjjminopdofaaW.PrintWords Go.Proofs.YtpcjjminopdofaaW.PrintLast
set_option linter.unusedVariables false
set_option linter.unusedSimpArgs false

theorem ev_if {α : Type} {c : Prop} [Decidable c] {g f : Nat → Option α} {r : α} (h : c) (k : Ev g r) : Ev (fun n => if c then g n else f n) r := Ev.congr (fun n => if_pos h) k
theorem ev_else {α : Type} {c : Prop} [Decidable c] {g f : Nat → Option α} {r : α} (h : ¬ c) (k : Ev f r) : Ev (fun n => if c then g n else f n) r := Ev.congr (fun n => if_neg h) k
theorem ev_eq {α β : Type} {g : Option α} {a : α} {f : Nat → α → Option β} {r : β} (h : g = some a) (k : Ev (fun n => f n a) r) : Ev (fun n => g.bind (f n)) r := by rw [h]; exact k
theorem w1 {i : Nat} (h : i < 2000000) : wrap64 ((i : Int) + 1) = ((i + 1 : Nat) : Int) := by unfold wrap64; omega
theorem rd_nat (l : List Int) (i : Nat) : rd l (i : Int) = l.getD i 0 := by unfold rd; rw [Int.toNat_natCast]
theorem rd_map {F : Nat → Int} {n i : Nat} (h : i < n) : rd ((List.range n).map F) (i : Int) = F i := by
  rw [rd_nat, List.getD_eq_getElem?_getD, List.getElem?_map, List.getElem?_range h]; rfl
/-- The sum of the first i, with wrap-around. -/
def sw (l : List Int) : Nat → Int
  | 0 => 0
  | i + 1 => wrap64 (sw l i + rd l (i : Int))
theorem iSum (l : List Int) (h : l.length ≤ 1048576) : Ev (fun k => impl_sumOf.f k l) (sw l l.length) := by
  unfold impl_sumOf.f
  have key : ∀ d i : Nat, i + d = l.length → Ev (fun k => impl_sumOf.l0 k (sw l i) l (l.length : Int) (i : Int)) (sw l l.length) := by
    intro d
    induction d with
    | zero =>
      intro i hi
      obtain rfl : i = l.length := by omega
      refine ⟨1, fun k hk => ?_⟩
      obtain ⟨k, rfl⟩ : ∃ m, k = m + 1 := ⟨k - 1, by omega⟩
      simp only [impl_sumOf.l0]
      rw [if_neg (by omega)]
    | succ d ih =>
      intro i hi
      refine Ev.step (f := fun k => impl_sumOf.l0 k (sw l (i + 1)) l (l.length : Int) ((i + 1 : Nat) : Int)) (fun k => ?_) (ih (i + 1) (by omega))
      simp only [impl_sumOf.l0]
      rw [if_pos (by omega), if_pos (by omega), if_pos (by omega), w1 (by omega)]
      rfl
  exact key l.length 0 (by omega)
theorem iIndex (l : List Int) (h : l.length ≤ 1048576) : ∃ v : Int, Ev (fun k => slices_Index_int64_int64.f k l 1) v ∧ ((v = -1 ∧ ∀ j : Nat, j < l.length → rd l (j : Int) ≠ 1) ∨ (∃ i : Nat, i < l.length ∧ v = (i : Int) ∧ rd l (i : Int) = 1 ∧ ∀ j : Nat, j < i → rd l (j : Int) ≠ 1)) := by
  have key : ∀ d i : Nat, i + d = l.length → (∀ j : Nat, j < i → rd l (j : Int) ≠ 1) → ∃ v : Int, Ev (fun k => slices_Index_int64_int64.l0 k l 1 (l.length : Int) (i : Int)) v ∧ ((v = -1 ∧ ∀ j : Nat, j < l.length → rd l (j : Int) ≠ 1) ∨ (∃ i : Nat, i < l.length ∧ v = (i : Int) ∧ rd l (i : Int) = 1 ∧ ∀ j : Nat, j < i → rd l (j : Int) ≠ 1)) := by
    intro d
    induction d with
    | zero =>
      intro i hi hj
      obtain rfl : i = l.length := by omega
      refine ⟨-1, ⟨1, fun k hk => ?_⟩, .inl ⟨rfl, hj⟩⟩
      obtain ⟨k, rfl⟩ : ∃ m, k = m + 1 := ⟨k - 1, by omega⟩
      simp only [slices_Index_int64_int64.l0]
      rw [if_neg (by omega)]
    | succ d ih =>
      intro i hi hj
      by_cases h1 : rd l (i : Int) = 1
      · refine ⟨(i : Int), ⟨1, fun k hk => ?_⟩, .inr ⟨i, by omega, rfl, h1, hj⟩⟩
        obtain ⟨k, rfl⟩ : ∃ m, k = m + 1 := ⟨k - 1, by omega⟩
        simp only [slices_Index_int64_int64.l0]
        rw [if_pos (by omega), if_pos (by omega), if_pos (by omega), if_pos h1.symm]
      · obtain ⟨v, hv, hc⟩ := ih (i + 1) (by omega) (fun j hj2 => by
          by_cases e : j = i
          · rw [e]; exact h1
          · exact hj j (by omega))
        refine ⟨v, Ev.step (f := fun k => slices_Index_int64_int64.l0 k l 1 (l.length : Int) ((i + 1 : Nat) : Int)) (fun k => ?_) hv, hc⟩
        simp only [slices_Index_int64_int64.l0]
        rw [if_pos (by omega), if_pos (by omega), if_pos (by omega), if_neg (fun e => h1 e.symm), w1 (by omega)]
  unfold slices_Index_int64_int64.f
  exact key l.length 0 (by omega) (fun j hj => by omega)
theorem mask_at (l : List Int) (h : msk l = true) : l.length ≤ 16 ∧ ∀ j : Nat, j < l.length → rd l (j : Int) = 0 ∨ rd l (j : Int) = 1 := by
  unfold msk at h
  rw [Bool.and_eq_true, decide_eq_true_eq, List.all_eq_true] at h
  obtain ⟨h1, h2⟩ := h
  refine ⟨by unfold Lanes at h1; omega, fun j hj => ?_⟩
  have := h2 j (by simpa using hj)
  unfold b01 at this
  rw [decide_eq_true_eq] at this
  exact this
/-- Of noughts and ones: the sum of the first i is small, and nought just where they all are. -/
theorem sw_mask (l : List Int) (h : msk l = true) : ∀ i : Nat, i ≤ l.length → 0 ≤ sw l i ∧ sw l i ≤ (i : Int) ∧ (sw l i = 0 ↔ ∀ j : Nat, j < i → rd l (j : Int) = 0) := by
  obtain ⟨h16, hb⟩ := mask_at l h
  intro i
  induction i with
  | zero => intro _; exact ⟨Int.le_refl _, Int.le_refl _, ⟨fun _ j hj => by omega, fun _ => rfl⟩⟩
  | succ i ih =>
    intro hi
    obtain ⟨a, b, c⟩ := ih (by omega)
    have e : sw l (i + 1) = sw l i + rd l (i : Int) := by
      show wrap64 (sw l i + rd l (i : Int)) = _
      rcases hb i (by omega) with h0 | h0 <;> rw [h0] <;> unfold wrap64 <;> omega
    rw [e]
    have hx := hb i (by omega)
    refine ⟨by omega, by omega, ⟨fun hz j hj => ?_, fun hz => ?_⟩⟩
    · by_cases ej : j = i
      · rw [ej]; omega
      · exact (c.mp (by omega)) j (by omega)
    · have := hz i (by omega)
      have := c.mpr (fun j hj => hz j (by omega))
      omega
/-- Two vectors with as many lanes. -/
def both (b : Int) (l m : List Int) : Bool := vec b l && vec b m && decide (l.length = m.length)
theorem vecs_two (b : Int) (l m : List Int) : vecs b [l, m] = both b l m := by
  show ((vec b l && ((l.length : Int) == (l.length : Int))) && ((vec b m && ((m.length : Int) == (l.length : Int))) && true)) = (vec b l && vec b m && decide (l.length = m.length))
  by_cases h : l.length = m.length
  · simp [h]
  · have h1 : ¬ ((m.length : Int) = (l.length : Int)) := by omega
    simp [h, h1]
theorem iWise {op b : Int} {l m : List Int} (ho : OpOk op) (hl : Words b l) (hm : Words b m) (he : l.length = m.length) (h : l.length ≤ 100000) : Ev (fun k => impl_laneWise.f k op b l m) ((List.range l.length).map fun (j : Nat) => res op b (rd l (j : Int)) (rd m (j : Int))) :=
  ⟨0, fun k _ => by unfold impl_laneWise.f; rw [if_pos ⟨ho, hl, hm, by omega, h⟩]⟩
theorem iCompared {c b : Int} {l m : List Int} (hl : Words b l) (hm : Words b m) (he : l.length = m.length) (h : l.length ≤ 100000) : Ev (fun k => impl_compared.f k c b l m) ((List.range l.length).map fun (j : Nat) => toI (cmpB c b (rd l (j : Int)) (rd m (j : Int)))) :=
  ⟨0, fun k _ => by unfold impl_compared.f; rw [if_pos ⟨hl, hm, by omega, h⟩]⟩
theorem ne_self (b : Bool) : ¬ (b != b) = true := by cases b <;> simp
theorem vecs_three (b : Int) (l m n : List Int) : vecs b [l, m, n] = (vec b l && (vec b m && decide (l.length = m.length)) && (vec b n && decide (l.length = n.length))) := by
  show ((vec b l && ((l.length : Int) == (l.length : Int))) && ((vec b m && ((m.length : Int) == (l.length : Int))) && ((vec b n && ((n.length : Int) == (l.length : Int))) && true))) = _
  have e : ∀ x : List Int, ((x.length : Int) == (l.length : Int)) = decide (l.length = x.length) := fun x => by rw [Bool.eq_iff_iff]; simp; omega
  rw [e m, e n]
  simp [Bool.and_assoc]
theorem iSelected {s l m : List Int} (h1 : s.length = l.length) (h2 : l.length = m.length) (h : l.length ≤ 100000) : Ev (fun k => impl_selected.f k s l m) ((List.range l.length).map fun (j : Nat) => sel (rd s (j : Int)) (rd l (j : Int)) (rd m (j : Int))) :=
  ⟨0, fun k _ => by unfold impl_selected.f; rw [if_pos ⟨by omega, by omega, h⟩]⟩
/-- A mask for a vector, and vectors with as many lanes. -/
def masked (b : Int) (s : List Int) (ls : List (List Int)) : Bool := msk s && vecs b ls && decide ((rd_L1 ls 0).length = s.length)
theorem iMasked (b : Int) (s l : List Int) (ls : List (List Int)) : Ev (fun k => impl_areMasked.f k b s (l :: ls)) (masked b s (l :: ls)) := by
  unfold impl_areMasked.f masked
  refine Ev.bind (Ev.now (msk s)) ?_
  cases msk s with
  | false => exact ev_else (by simp) (Ev.now _)
  | true =>
    refine ev_if rfl (Ev.bind (Ev.now (vecs b (l :: ls))) ?_)
    cases vecs b (l :: ls) with
    | false => exact ev_else (by simp) (Ev.now _)
    | true =>
      refine ev_if rfl (ev_if (by simp) ?_)
      have e : (((rd_L1 (l :: ls) 0).length : Int) == (s.length : Int)) = (true && true && decide ((rd_L1 (l :: ls) 0).length = s.length)) := by
        rw [Bool.eq_iff_iff]; simp; omega
      rw [e]
      exact Ev.now _
theorem rd_zero (l : List Int) (ls : List (List Int)) : rd_L1 (l :: ls) 0 = l := rfl
theorem masked_two (b : Int) (s l m : List Int) : masked b s [l, m] = (both b l m && (decide ((s.length : Int) = (l.length : Int)) && msk s)) := by
  unfold masked
  rw [vecs_two, rd_zero, Bool.eq_iff_iff]
  simp only [Bool.and_eq_true, decide_eq_true_eq]
  exact ⟨fun ⟨⟨hs, hb⟩, e⟩ => ⟨hb, by omega, hs⟩, fun ⟨hb, e, hs⟩ => ⟨⟨hs, hb⟩, by omega⟩⟩
theorem masked_three (b : Int) (s d l m : List Int) : masked b s [d, l, m] = (both b l m && both b l d && (decide ((s.length : Int) = (l.length : Int)) && msk s)) := by
  unfold masked
  rw [vecs_three, rd_zero]
  unfold both
  rw [Bool.eq_iff_iff]
  simp only [Bool.and_eq_true, decide_eq_true_eq]
  exact ⟨fun ⟨⟨hs, ⟨⟨hd, hl, e1⟩, hm, e2⟩⟩, e3⟩ => ⟨⟨⟨⟨hl, hm⟩, by omega⟩, ⟨⟨hl, hd⟩, by omega⟩⟩, by omega, hs⟩,
    fun ⟨⟨⟨⟨hl, hm⟩, e1⟩, ⟨⟨_, hd⟩, e2⟩⟩, e3, hs⟩ => ⟨⟨hs, ⟨⟨hd, hl, by omega⟩, hm, by omega⟩⟩, by omega⟩⟩
def Bytes (l : List Int) : Prop := ∀ x ∈ l, 0 ≤ x ∧ x ≤ 255
theorem bytes_of {l : List Int} (h : ∀ x ∈ l, (Lit.int .u8 x).wf = true) : Bytes l := fun x hx => bounds_u8 (h x hx)
theorem and255 (n : Int) : 0 ≤ Go.bits .and .u64 n 255 ∧ Go.bits .and .u64 n 255 ≤ 255 := by
  have key := mask 8 (by decide) n
  have e : Go.bits .and .u64 n 255 = IntKind.u64.wrap (((BitVec.ofInt 64 n &&& BitVec.ofInt 64 (2 ^ 8 - 1)).toNat : Nat) : Int) := rfl
  rw [e, key, u_small (by omega)]
  omega
theorem next_ok {s : List Int} (hs : Bytes s) (p st : Int) (hp : 0 ≤ p ∧ p ≤ 1000000000) : ∃ v st' : Int, spec_l00Src_next.f s p st = some (v, p + 1, st') ∧ 0 ≤ v ∧ v ≤ 255 := by
  have hw : wrap64 (p + 1) = p + 1 := w_small (by omega)
  unfold spec_l00Src_next.f
  by_cases h1 : p < (s.length : Int)
  · have hv := hs _ (rd_mem hp.1 h1)
    rw [if_pos h1, if_pos hp.1, hw]
    by_cases h2 : p + 1 ≤ (s.length : Int)
    · rw [if_pos h2]
      exact ⟨_, _, rfl, by rw [w_small (by omega)]; exact hv⟩
    · exact absurd h1 (by omega)
  · rw [if_neg h1, hw]
    by_cases h2 : p + 1 ≤ (s.length : Int)
    · exact absurd h2 (by omega)
    · rw [if_neg h2]
      refine ⟨_, _, rfl, ?_⟩
      have := and255 ((IntKind.u64.wrap ((IntKind.u64.wrap ((IntKind.u64.wrap (st * 6364136223846793005)) + 0)) + 1442695040888963407)) / 1099511627776)
      rw [w_small (by omega)]
      exact this
theorem pick_ok {s : List Int} (hs : Bytes s) (p st n : Int) (hp : 0 ≤ p ∧ p ≤ 1000000) (hn : 1 ≤ n) : ∃ v p' st' : Int, spec_l00Src_pick.f s p st n = some (v, p', st') ∧ (0 ≤ v ∧ v < n) ∧ p ≤ p' ∧ p' ≤ p + 2 := by
  unfold spec_l00Src_pick.f
  by_cases h1 : n ≤ 1
  · rw [if_pos h1]
    exact ⟨_, _, _, rfl, by omega, by omega⟩
  · rw [if_neg h1]
    obtain ⟨v, st1, e1, hv⟩ := next_ok hs p st (by omega)
    rw [e1]
    show ∃ v' p' st', (if n > 200 then ((spec_l00Src_next.f s (p + 1) st1).bind fun bt136 => (if n = 0 then (none) else (some (Int.tmod (wrap64 ((wrap64 (v * 256)) + bt136.1)) n, bt136.2.1, bt136.2.2)))) else (if n = 0 then (none) else (some (Int.tmod v n, p + 1, st1)))) = some (v', p', st') ∧ _
    by_cases h2 : n > 200
    · rw [if_pos h2]
      obtain ⟨v2, st2, e2, hv2⟩ := next_ok hs (p + 1) st1 (by omega)
      rw [e2]
      have hx : wrap64 ((wrap64 (v * 256)) + v2) = v * 256 + v2 := by rw [w_small (n := v * 256) (by omega), w_small (by omega)]
      refine ⟨Int.tmod (wrap64 ((wrap64 (v * 256)) + v2)) n, p + 1 + 1, st2, ?_, ?_, by omega⟩
      · show (if n = 0 then none else _) = _
        rw [if_neg (by omega)]
      · rw [hx]
        exact ⟨Int.tmod_nonneg _ (by omega), Int.tmod_lt_of_pos _ (by omega)⟩
    · rw [if_neg h2, if_neg (by omega)]
      exact ⟨_, _, _, rfl, ⟨Int.tmod_nonneg _ (by omega), Int.tmod_lt_of_pos _ (by omega)⟩, by omega⟩
theorem among_ok {s : List Int} (hs : Bytes s) (p st : Int) (l : List Int) (hp : 0 ≤ p ∧ p ≤ 1000000) (hn : 1 ≤ l.length) : ∃ v p' st' : Int, spec_l00Src_among.f s p st l = some (v, p', st') ∧ v ∈ l ∧ p ≤ p' ∧ p' ≤ p + 2 := by
  obtain ⟨v, p', st', e, hv, hp'⟩ := pick_ok hs p st l.length hp (by omega)
  unfold spec_l00Src_among.f
  rw [e]
  refine ⟨rd l v, p', st', ?_, rd_mem hv.1 hv.2, hp'⟩
  show (if 0 ≤ v then (if v < (l.length : Int) then _ else none) else none) = _
  rw [if_pos hv.1, if_pos hv.2]
theorem one_ok {s : List Int} (hs : Bytes s) (p st n : Int) (hp : 0 ≤ p ∧ p ≤ 1000000) (hn : 1 ≤ n) : ∃ (b : Bool) (p' st' : Int), spec_l00Src_one.f s p st n = some (b, p', st') ∧ p ≤ p' ∧ p' ≤ p + 2 := by
  obtain ⟨v, p', st', e, hv, hp'⟩ := pick_ok hs p st n hp hn
  unfold spec_l00Src_one.f
  rw [e]
  exact ⟨_, _, _, rfl, hp'⟩
theorem drawBits {s : List Int} (hs : Bytes s) : ∃ b : Int, spec_R8Bits.f s = some b ∧ Bits b := by
  obtain ⟨v, p', st', e, hv, _⟩ := among_ok hs 0 0 [4, 8, 16] (by omega) (by decide)
  unfold spec_R8Bits.f spec_l00From.f
  refine ⟨v, ?_, ?_⟩
  · show ((spec_l00Src_among.f s 0 0 [4, 8, 16]).bind fun bt150 => some bt150.1) = _
    rw [e]; rfl
  · simp only [List.mem_cons, List.not_mem_nil, or_false] at hv
    unfold Bits
    omega
theorem drawLanes {s : List Int} (hs : Bytes s) : ∃ n : Nat, spec_R8Lanes.f s = some (n : Int) ∧ Lanes (n : Int) := by
  obtain ⟨v, p', st', e, hv, _⟩ := among_ok hs 0 0 [2, 4, 8, 16] (by omega) (by decide)
  have hv2 : v = 2 ∨ v = 4 ∨ v = 8 ∨ v = 16 := by
    simp only [List.mem_cons, List.not_mem_nil, or_false] at hv
    exact hv
  have e2 : ((v.toNat : Nat) : Int) = v := by omega
  refine ⟨v.toNat, ?_, by rw [e2]; exact hv2⟩
  unfold spec_R8Lanes.f spec_l00From.f
  show ((spec_l00Src_among.f s 0 0 [2, 4, 8, 16]).bind fun bt150 => some bt150.1) = _
  rw [e, e2]; rfl
theorem uB {b : Int} (h : Bits b) : IntKind.u64.wrap b = b ∧ IntKind.u64.wrap (b - 1) = b - 1 := by
  have := b_bounds h
  exact ⟨u_small (by omega), u_small (by omega)⟩
theorem good_ok {s : List Int} (hs : Bytes s) (p st b : Int) (hb : Bits b) (hp : 0 ≤ p ∧ p ≤ 900000) : ∃ x p' st' : Int, spec_l01DrawGood.f s p st b = some (x, p', st') ∧ Word b x ∧ p ≤ p' ∧ p' ≤ p + 4 := by
  obtain ⟨t, p1, st1, e1, hp1⟩ := one_ok hs p st 4 (by omega) (by omega)
  have hbb := b_bounds hb
  unfold spec_l01DrawGood.f
  rw [e1, (uB hb).1, (uB hb).2]
  show ∃ x p' st', (if t = true then _ else _) = _ ∧ _
  cases t with
  | true =>
    rw [if_pos rfl, if_pos (by omega), if_pos (by omega), shlB hb, shlB1 hb]
    obtain ⟨v, p2, st2, e2, hv, hp2⟩ := among_ok hs p1 st1 [0, wrap64 (M b - 1), M b / 2, wrap64 (M b / 2 - 1), 1] (by omega) (by simp)
    refine ⟨v, p2, st2, ?_, ⟨hb, ?_⟩, by omega⟩
    · show ((spec_l00Src_among.f s p1 st1 _).bind _) = _
      rw [e2]; rfl
    · have hM : 16 ≤ M b ∧ M b ≤ 65536 := by rcases hb with rfl | rfl | rfl <;> decide
      rw [w_small (by omega), w_small (by omega)] at hv
      simp only [List.mem_cons, List.not_mem_nil, or_false] at hv
      omega
  | false =>
    rw [if_neg (by simp), if_pos (by omega), shlB hb]
    have hM : 16 ≤ M b ∧ M b ≤ 65536 := by rcases hb with rfl | rfl | rfl <;> decide
    obtain ⟨v, p2, st2, e2, hv, hp2⟩ := pick_ok hs p1 st1 (M b) (by omega) (by omega)
    refine ⟨v, p2, st2, ?_, ⟨hb, hv⟩, by omega⟩
    show ((spec_l00Src_pick.f s p1 st1 (M b)).bind _) = _
    rw [e2]; rfl
theorem words_ok {s : List Int} (hs : Bytes s) (b : Int) (hb : Bits b) : ∀ (n : Nat) (acc : List Int) (p st : Int), acc.length + n ≤ 1000 → 0 ≤ p ∧ p + 4 * n ≤ 800000 → ∃ (l : List Int) (p' st' : Int), Ev (fun k => spec_l01DrawWords.l0 k b (n : Int) acc s p st) (acc ++ l, p', st') ∧ l.length = n ∧ Words b l := by
  intro n
  induction n with
  | zero =>
    intro acc p st _ _
    refine ⟨[], p, st, ⟨1, fun k hk => ?_⟩, rfl, fun x hx => by cases hx⟩
    obtain ⟨k, rfl⟩ : ∃ m, k = m + 1 := ⟨k - 1, by omega⟩
    simp only [spec_l01DrawWords.l0]
    rw [if_neg (by omega), List.append_nil]
  | succ n ih =>
    intro acc p st hn hp
    obtain ⟨x, p1, st1, e1, hx, hp1⟩ := good_ok hs p st b hb (by omega)
    obtain ⟨l, p2, st2, e2, hl, hw⟩ := ih (acc ++ [x]) p1 st1 (by simp; omega) (by omega)
    refine ⟨x :: l, p2, st2, Ev.step (f := fun k => spec_l01DrawWords.l0 k b (n : Int) (acc ++ [x]) s p1 st1) (fun k => ?_) ?_, by simp [hl], fun y hy => ?_⟩
    · simp only [spec_l01DrawWords.l0]
      rw [if_pos (by omega), e1]
      show (if acc.length < 17592186044416 then _ else none) = _
      rw [if_pos (by omega), w_small (by omega), show ((n + 1 : Nat) : Int) - 1 = (n : Int) by omega]
    · rw [List.append_assoc] at e2
      exact e2
    · rcases List.mem_cons.mp hy with rfl | h
      · exact hx
      · exact hw y h
theorem drawVector {s : List Int} (hs : Bytes s) (b : Int) (hb : Bits b) (n : Nat) (hn : n ≤ 1000) : ∃ l : List Int, Ev (fun k => spec_R8Vector.f k s b (n : Int)) l ∧ l.length = n ∧ Words b l := by
  obtain ⟨l, p', st', e, hl, hw⟩ := words_ok hs b hb n [] 0 0 (by simp; omega) (by omega)
  refine ⟨l, ?_, hl, hw⟩
  unfold spec_R8Vector.f spec_l00From.f spec_l01DrawWords.f
  exact Ev.bind (Ev.now (s, (0 : Int), (0 : Int))) (Ev.bind e (Ev.now _))
theorem r8At {s : List Int} (hs : Bytes s) (i n : Int) (hi : 0 ≤ i) (hn : 1 ≤ n) : ∃ v : Int, laws_r8At.f s i n = some v ∧ 0 ≤ v ∧ v < n := by
  unfold laws_r8At.f
  by_cases h1 : n ≤ 1
  · rw [if_pos h1]; exact ⟨0, rfl, by omega, by omega⟩
  · rw [if_neg h1]
    by_cases h2 : i ≥ (s.length : Int)
    · rw [if_pos h2]; exact ⟨0, rfl, by omega, by omega⟩
    · rw [if_neg h2, if_pos hi, if_pos (by omega), if_neg (by omega)]
      have hv := hs _ (rd_mem hi (by omega))
      rw [w_small (by omega)]
      exact ⟨_, rfl, Int.tmod_nonneg _ (by omega), Int.tmod_lt_of_pos _ (by omega)⟩

end Go.Proofs.Ytpcjjminopdofaa.V
