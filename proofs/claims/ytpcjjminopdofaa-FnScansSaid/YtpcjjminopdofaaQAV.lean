/- Plain theorems of this claim. Their conditions stand with each. -/
import Derived.OpenShut
import Derived.Test.YtpcjjminopdofaaB0
import Derived.Test.YtpcjjminopdofaaK0
import Derived.Test.YtpcjjminopdofaaQA0
import Derived.Test.YtpcjjminopdofaaQA1
import Derived.Test.YtpcjjminopdofaaQA2
namespace Go.Proofs.Ytpcjjminopdofaa.V
open Go.RowKit Go.Proofs.Ytpcjjminopdofaa.K Go.Proofs.Ytpcjjminopdofaa.Bx Go.Proofs.YtpcjjminopdofaaW.PrintWords Go.Proofs.YtpcjjminopdofaaW.PrintLast
set_option linter.unusedVariables false
set_option linter.unusedSimpArgs false

theorem ev_if {α : Type} {c : Prop} [Decidable c] {g f : Nat → Option α} {r : α} (h : c) (k : Ev g r) : Ev (fun n => if c then g n else f n) r := Ev.congr (fun n => if_pos h) k
theorem ev_else {α : Type} {c : Prop} [Decidable c] {g f : Nat → Option α} {r : α} (h : ¬ c) (k : Ev f r) : Ev (fun n => if c then g n else f n) r := Ev.congr (fun n => if_neg h) k
theorem ev_eq {α β : Type} {g : Option α} {a : α} {f : Nat → α → Option β} {r : β} (h : g = some a) (k : Ev (fun n => f n a) r) : Ev (fun n => g.bind (f n)) r := by rw [h]; exact k
theorem w1 {i : Nat} (h : i < 2000000) : wrap64 ((i : Int) + 1) = ((i + 1 : Nat) : Int) := by unfold wrap64; omega
theorem range_end {F : Nat → Int} (i : Nat) : (List.range i).map F ++ [F i] = (List.range (i + 1)).map F := by rw [List.range_succ, List.map_append]; rfl
theorem rd_nat (l : List Int) (i : Nat) : rd l (i : Int) = l.getD i 0 := by unfold rd; rw [Int.toNat_natCast]
theorem rd_map {F : Nat → Int} {n i : Nat} (h : i < n) : rd ((List.range n).map F) (i : Int) = F i := by
  rw [rd_nat, List.getD_eq_getElem?_getD, List.getElem?_map, List.getElem?_range h]; rfl
theorem map_rd (l : List Int) : ((List.range l.length).map fun (j : Nat) => rd l (j : Int)) = l := by
  apply List.ext_getElem
  · simp
  · intro i h1 h2
    rw [List.getElem_map, List.getElem_range, rd_nat, List.getD_eq_getElem?_getD, List.getElem?_eq_getElem h2]; rfl
-- BLOCKS
theorem iWise {op b : Int} {l m : List Int} (ho : OpOk op) (hl : Words b l) (hm : Words b m) (he : l.length = m.length) (h : l.length ≤ 100000) : Ev (fun k => impl_laneWise.f k op b l m) ((List.range l.length).map fun (j : Nat) => res op b (rd l (j : Int)) (rd m (j : Int))) :=
  ⟨0, fun k _ => by unfold impl_laneWise.f; rw [if_pos ⟨ho, hl, hm, by omega, h⟩]⟩
/-- The result of the first lanes up to one. -/
def scn (op b : Int) (l : List Int) : Nat → Int
  | 0 => rd l 0
  | i + 1 => res op b (scn op b l i) (rd l ((i + 1 : Nat) : Int))
theorem scn_word {op b : Int} {l : List Int} (hl : Words b l) : ∀ i : Nat, i < l.length → Word b (scn op b l i) := by
  intro i
  induction i with
  | zero => intro h; exact words_rd hl (by omega) (by omega)
  | succ i ih => intro h; exact res_word (ih (by omega)) (words_rd hl (by omega) (by omega))
theorem iScan {op b : Int} {l : List Int} (ho : OpOk op) (hl : Words b l) (h1 : 1 ≤ l.length) (h : l.length ≤ 1048576) : Ev (fun k => impl_scanned.f k op b l) ((List.range l.length).map (scn op b l)) := by
  unfold impl_scanned.f
  have hcl : Ev (fun k => slices_Clone_int64_int64.f k l) l := ⟨0, fun k _ => by unfold slices_Clone_int64_int64.f; rw [if_pos (by omega)]⟩
  refine Ev.bind hcl ?_
  have key : ∀ d j : Nat, j + 1 + d = l.length → ∀ t : List Int, t = (List.range (j + 1)).map (scn op b l) ++ l.drop (j + 1) → Ev (fun k => impl_scanned.l0 k op b l t ((j + 1 : Nat) : Int)) ((List.range l.length).map (scn op b l)) := by
    intro d
    induction d with
    | zero =>
      intro j hj t ht
      have e : j + 1 = l.length := by omega
      have htl : t.length = l.length := by rw [ht]; simp; omega
      refine ⟨1, fun k hk => ?_⟩
      obtain ⟨k, rfl⟩ : ∃ m, k = m + 1 := ⟨k - 1, by omega⟩
      simp only [impl_scanned.l0]
      rw [if_neg (by omega), ht, e, List.drop_length, List.append_nil]
    | succ d ih =>
      intro j hj t ht
      have e1 : wrap64 (((j + 1 : Nat) : Int) - 1) = (j : Int) := by rw [w_small (by omega)]; omega
      have htl : t.length = l.length := by rw [ht]; simp; omega
      have hrd : rd t (j : Int) = scn op b l j := by
        rw [ht, rd_nat, List.getD_eq_getElem?_getD, List.getElem?_append_left (by simp), List.getElem?_map, List.getElem?_range (by omega)]
        rfl
      refine Ev.step (f := fun k => impl_scanned.l0 k op b l (t.set (j + 1) (scn op b l (j + 1))) ((j + 1 + 1 : Nat) : Int)) (fun k => ?_) (ih (j + 1) (by omega) _ ?_)
      · simp only [impl_scanned.l0]
        rw [if_pos (by omega), e1, if_pos (by omega), if_pos (by omega), if_pos (by omega), if_pos (by omega), hrd, iResult ho (scn_word hl j (by omega)) (words_rd hl (by omega) (by omega)), w1 (i := j + 1) (by omega), Int.toNat_natCast]
        rfl
      · rw [ht, List.set_append, if_neg (by simp)]
        have e2 : j + 1 - ((List.range (j + 1)).map (scn op b l)).length = 0 := by simp
        rw [e2, List.drop_eq_getElem_cons (by omega : j + 1 < l.length), List.set_cons_zero, ← range_end (j + 1), List.append_assoc]
        rfl
  refine key (l.length - 1) 0 (by omega) l ?_
  cases l with
  | nil => simp at h1
  | cons x xs => rfl
theorem bits_and {a b : Nat} (ha : a < 2 ^ 62) (hb : b < 2 ^ 62) : Go.bits .and .i64 (a : Int) (b : Int) = ((a &&& b : Nat) : Int) := by
  have h : a &&& b < 2 ^ 62 := Nat.and_lt_two_pow _ hb
  show IntKind.i64.wrap (((BitVec.ofInt 64 (a : Int) &&& BitVec.ofInt 64 (b : Int)).toNat : Nat) : Int) = _
  rw [BitVec.toNat_and, BitVec.ofInt_natCast, BitVec.ofInt_natCast, BitVec.toNat_ofNat, BitVec.toNat_ofNat, Nat.mod_eq_of_lt (by omega), Nat.mod_eq_of_lt (by omega), IntKind.wrap_i64]
  omega
theorem bits_or {a b : Nat} (ha : a < 2 ^ 62) (hb : b < 2 ^ 62) : Go.bits .or .i64 (a : Int) (b : Int) = ((a ||| b : Nat) : Int) := by
  have h : a ||| b < 2 ^ 62 := Nat.or_lt_two_pow ha hb
  show IntKind.i64.wrap (((BitVec.ofInt 64 (a : Int) ||| BitVec.ofInt 64 (b : Int)).toNat : Nat) : Int) = _
  rw [BitVec.toNat_or, BitVec.ofInt_natCast, BitVec.ofInt_natCast, BitVec.toNat_ofNat, BitVec.toNat_ofNat, Nat.mod_eq_of_lt (by omega), Nat.mod_eq_of_lt (by omega), IntKind.wrap_i64]
  omega
theorem bits_xor {a b : Nat} (ha : a < 2 ^ 62) (hb : b < 2 ^ 62) : Go.bits .xor .i64 (a : Int) (b : Int) = ((a ^^^ b : Nat) : Int) := by
  have h : a ^^^ b < 2 ^ 62 := Nat.xor_lt_two_pow ha hb
  show IntKind.i64.wrap (((BitVec.ofInt 64 (a : Int) ^^^ BitVec.ofInt 64 (b : Int)).toNat : Nat) : Int) = _
  rw [BitVec.toNat_xor, BitVec.ofInt_natCast, BitVec.ofInt_natCast, BitVec.toNat_ofNat, BitVec.toNat_ofNat, Nat.mod_eq_of_lt (by omega), Nat.mod_eq_of_lt (by omega), IntKind.wrap_i64]
  omega
theorem word_nat {b x : Int} (h : Word b x) : ∃ a : Nat, x = a ∧ a < 2 ^ 62 := by
  have := @M_le b
  obtain ⟨_, h0, h1⟩ := h
  exact ⟨x.toNat, by omega, by omega⟩
def Comm (op : Int) : Prop := op = 0 ∨ op = 14 ∨ (2 ≤ op ∧ op ≤ 11)
def Assoc (op : Int) : Prop := op = 0 ∨ (2 ≤ op ∧ op ≤ 10)
instance (op : Int) : Decidable (Comm op) := inferInstanceAs (Decidable (_ ∨ _ ∨ _))
instance (op : Int) : Decidable (Assoc op) := inferInstanceAs (Decidable (_ ∨ _))
theorem sg_inj {b x y : Int} (hx : Word b x) (hy : Word b y) (h : sg b x = sg b y) : x = y := by rw [← sg_mod hx, ← sg_mod hy, h]
theorem res_comm {op b x y : Int} (ho : Comm op) (hx : Word b x) (hy : Word b y) : res op b x y = res op b y x := by
  have hop : op = 0 ∨ op = 2 ∨ op = 3 ∨ op = 4 ∨ op = 5 ∨ op = 6 ∨ op = 7 ∨ op = 8 ∨ op = 9 ∨ op = 10 ∨ op = 11 ∨ op = 14 := by unfold Comm at ho; omega
  obtain ⟨a, rfl, ha⟩ := word_nat hx
  obtain ⟨c, rfl, hc⟩ := word_nat hy
  rcases hop with rfl | rfl | rfl | rfl | rfl | rfl | rfl | rfl | rfl | rfl | rfl | rfl
  · show ((a : Int) + c) % M b = (c + a) % M b
    rw [Int.add_comm]
  · show ((a : Int) * c) % M b = (c * a) % M b
    rw [Int.mul_comm]
  · show Go.bits .and .i64 _ _ = Go.bits .and .i64 _ _
    rw [bits_and ha hc, bits_and hc ha, Nat.and_comm]
  · show Go.bits .or .i64 _ _ = Go.bits .or .i64 _ _
    rw [bits_or ha hc, bits_or hc ha, Nat.or_comm]
  · show Go.bits .xor .i64 _ _ = Go.bits .xor .i64 _ _
    rw [bits_xor ha hc, bits_xor hc ha, Nat.xor_comm]
  · show (if (a : Int) < c then (a : Int) else c) = if (c : Int) < a then (c : Int) else a
    split <;> split <;> omega
  · show (if (a : Int) > c then (a : Int) else c) = if (c : Int) > a then (c : Int) else a
    split <;> split <;> omega
  · show (if sg b a ≤ sg b c then (a : Int) else c) = if sg b c ≤ sg b a then (c : Int) else a
    split <;> split
    · exact sg_inj hx hy (by omega)
    · rfl
    · rfl
    · omega
  · show (if sg b a ≥ sg b c then (a : Int) else c) = if sg b c ≥ sg b a then (c : Int) else a
    split <;> split
    · exact sg_inj hx hy (by omega)
    · rfl
    · rfl
    · omega
  · show clamp ((a : Int) + c) 0 (M b - 1) = clamp (c + a) 0 (M b - 1)
    rw [Int.add_comm]
  · show clamp (sg b a + sg b c) _ _ % M b = clamp (sg b c + sg b a) _ _ % M b
    rw [Int.add_comm]
  · show ((a : Int) + c + 1) / 2 = (c + a + 1) / 2
    rw [Int.add_comm (a : Int)]
theorem mul_mod3 (x y z m : Int) : (x * y % m * z) % m = (x * (y * z % m)) % m := by
  rw [Int.mul_emod (x * y % m) z m, Int.emod_emod_of_dvd _ (Int.dvd_refl m), ← Int.mul_emod, Int.mul_emod x (y * z % m) m, Int.emod_emod_of_dvd _ (Int.dvd_refl m), ← Int.mul_emod, Int.mul_assoc]
theorem res_assoc {op b x y z : Int} (ho : Assoc op) (hx : Word b x) (hy : Word b y) (hz : Word b z) : res op b (res op b x y) z = res op b x (res op b y z) := by
  have hop : op = 0 ∨ op = 2 ∨ op = 3 ∨ op = 4 ∨ op = 5 ∨ op = 6 ∨ op = 7 ∨ op = 8 ∨ op = 9 ∨ op = 10 := by unfold Assoc at ho; omega
  have hb := hx.1
  have hx2 := hx.2
  have hy2 := hy.2
  have hz2 := hz.2
  obtain ⟨a, rfl, ha⟩ := word_nat hx
  obtain ⟨c, rfl, hc⟩ := word_nat hy
  obtain ⟨d, rfl, hd⟩ := word_nat hz
  rcases hop with rfl | rfl | rfl | rfl | rfl | rfl | rfl | rfl | rfl | rfl
  · show (((a : Int) + c) % M b + d) % M b = (a + (c + d) % M b) % M b
    rw [Int.emod_add_emod, Int.add_emod_emod, Int.add_assoc]
  · show (((a : Int) * c) % M b * d) % M b = (a * ((c * d) % M b)) % M b
    exact mul_mod3 _ _ _ _
  · show Go.bits .and .i64 (Go.bits .and .i64 _ _) _ = Go.bits .and .i64 _ (Go.bits .and .i64 _ _)
    rw [bits_and ha hc, bits_and hc hd, bits_and (Nat.and_lt_two_pow _ hc) hd, bits_and ha (Nat.and_lt_two_pow _ hd), Nat.and_assoc]
  · show Go.bits .or .i64 (Go.bits .or .i64 _ _) _ = Go.bits .or .i64 _ (Go.bits .or .i64 _ _)
    rw [bits_or ha hc, bits_or hc hd, bits_or (Nat.or_lt_two_pow ha hc) hd, bits_or ha (Nat.or_lt_two_pow hc hd), Nat.or_assoc]
  · show Go.bits .xor .i64 (Go.bits .xor .i64 _ _) _ = Go.bits .xor .i64 _ (Go.bits .xor .i64 _ _)
    rw [bits_xor ha hc, bits_xor hc hd, bits_xor (Nat.xor_lt_two_pow ha hc) hd, bits_xor ha (Nat.xor_lt_two_pow hc hd), Nat.xor_assoc]
  · show (if (if (a : Int) < c then (a : Int) else c) < d then (if (a : Int) < c then (a : Int) else c) else d) = if (a : Int) < (if (c : Int) < d then (c : Int) else d) then (a : Int) else (if (c : Int) < d then (c : Int) else d)
    repeat' split
    all_goals omega
  · show (if (if (a : Int) > c then (a : Int) else c) > d then (if (a : Int) > c then (a : Int) else c) else d) = if (a : Int) > (if (c : Int) > d then (c : Int) else d) then (a : Int) else (if (c : Int) > d then (c : Int) else d)
    repeat' split
    all_goals omega
  · show (if sg b (if sg b a ≤ sg b c then (a : Int) else c) ≤ sg b d then (if sg b a ≤ sg b c then (a : Int) else c) else d) = if sg b a ≤ sg b (if sg b c ≤ sg b d then (c : Int) else d) then (a : Int) else (if sg b c ≤ sg b d then (c : Int) else d)
    by_cases h1 : sg b a ≤ sg b c <;> by_cases h2 : sg b c ≤ sg b d <;> by_cases h3 : sg b a ≤ sg b d <;> simp only [h1, h2, h3, if_true, if_false] <;> omega
  · show (if sg b (if sg b a ≥ sg b c then (a : Int) else c) ≥ sg b d then (if sg b a ≥ sg b c then (a : Int) else c) else d) = if sg b a ≥ sg b (if sg b c ≥ sg b d then (c : Int) else d) then (a : Int) else (if sg b c ≥ sg b d then (c : Int) else d)
    by_cases h1 : sg b a ≥ sg b c <;> by_cases h2 : sg b c ≥ sg b d <;> by_cases h3 : sg b a ≥ sg b d <;> simp only [h1, h2, h3, if_true, if_false] <;> omega
  · show clamp (clamp ((a : Int) + c) 0 (M b - 1) + d) 0 (M b - 1) = clamp (a + clamp (c + d) 0 (M b - 1)) 0 (M b - 1)
    unfold clamp
    repeat' split
    all_goals omega
section Folds
variable {o : Int → Int → Int} {W : Int → Prop} (hcl : ∀ x y, W x → W y → W (o x y)) (has : ∀ x y z, W x → W y → W z → o (o x y) z = o x (o y z)) (hco : ∀ x y, W x → W y → o x y = o y x)
/-- The fold of f from s on, of n + 1 places. -/
def fo (o : Int → Int → Int) (f : Nat → Int) (s : Nat) : Nat → Int
  | 0 => f s
  | n + 1 => o (fo o f s n) (f (s + n + 1))
include hcl in
theorem fo_in {f : Nat → Int} (hf : ∀ j, W (f j)) (s : Nat) : ∀ n, W (fo o f s n)
  | 0 => hf s
  | n + 1 => hcl _ _ (fo_in hf s n) (hf _)
include hcl has in
theorem fo_split {f : Nat → Int} (hf : ∀ j, W (f j)) (s m : Nat) : ∀ n, fo o f s (m + 1 + n) = o (fo o f s m) (fo o f (s + m + 1) n)
  | 0 => rfl
  | n + 1 => by
    show o (fo o f s (m + 1 + n)) (f (s + (m + 1 + n) + 1)) = o (fo o f s m) (o (fo o f (s + m + 1) n) (f (s + m + 1 + n + 1)))
    rw [fo_split hf s m n, has _ _ _ (fo_in hcl hf s m) (fo_in hcl hf _ n) (hf _), show s + (m + 1 + n) + 1 = s + m + 1 + n + 1 by omega]
include hcl has hco in
theorem fo_pair {f g : Nat → Int} (hf : ∀ j, W (f j)) (hg : ∀ j, W (g j)) (s : Nat) : ∀ n, fo o (fun j => o (f j) (g j)) s n = o (fo o f s n) (fo o g s n)
  | 0 => rfl
  | n + 1 => by
    show o (fo o (fun j => o (f j) (g j)) s n) (o (f (s + n + 1)) (g (s + n + 1))) = o (o (fo o f s n) (f (s + n + 1))) (o (fo o g s n) (g (s + n + 1)))
    have a := fo_in hcl hf s n
    have b := fo_in hcl hg s n
    have c := hf (s + n + 1)
    have d := hg (s + n + 1)
    rw [fo_pair hf hg s n, has _ _ _ a b (hcl _ _ c d), has _ _ _ a c (hcl _ _ b d), ← has _ _ _ b c d, hco _ _ b c, has _ _ _ c b d]
theorem fo_ext {f g : Nat → Int} (s t : Nat) : ∀ n, (∀ j, j ≤ n → f (s + j) = g (t + j)) → fo o f s n = fo o g t n
  | 0, h => h 0 (Nat.le_refl _)
  | n + 1, h => by
    show o (fo o f s n) (f (s + n + 1)) = o (fo o g t n) (g (t + n + 1))
    rw [fo_ext s t n (fun j hj => h j (by omega)), show s + n + 1 = s + (n + 1) by omega, show t + n + 1 = t + (n + 1) by omega, h (n + 1) (Nat.le_refl _)]
end Folds
def Bytes (l : List Int) : Prop := ∀ x ∈ l, 0 ≤ x ∧ x ≤ 255
theorem bytes_of {l : List Int} (h : ∀ x ∈ l, (Lit.int .u8 x).wf = true) : Bytes l := fun x hx => bounds_u8 (h x hx)
theorem and255 (n : Int) : 0 ≤ Go.bits .and .u64 n 255 ∧ Go.bits .and .u64 n 255 ≤ 255 := by
  have key := mask 8 (by decide) n
  have e : Go.bits .and .u64 n 255 = IntKind.u64.wrap (((BitVec.ofInt 64 n &&& BitVec.ofInt 64 (2 ^ 8 - 1)).toNat : Nat) : Int) := rfl
  rw [e, key, u_small (by omega)]
  omega
theorem next_ok {s : List Int} (hs : Bytes s) (p st : Int) (hp : 0 ≤ p ∧ p ≤ 1000000000) : ∃ v st' : Int, spec_l00Src_next.f s p st = some (v, p + 1, st') ∧ 0 ≤ v ∧ v ≤ 255 := by
  have hw : wrap64 (p + 1) = p + 1 := w_small (by omega)
  unfold spec_l00Src_next.f
  by_cases h1 : p < (s.length : Int)
  · have hv := hs _ (rd_mem hp.1 h1)
    rw [if_pos h1, if_pos hp.1, hw]
    by_cases h2 : p + 1 ≤ (s.length : Int)
    · rw [if_pos h2]
      exact ⟨_, _, rfl, by rw [w_small (by omega)]; exact hv⟩
    · exact absurd h1 (by omega)
  · rw [if_neg h1, hw]
    by_cases h2 : p + 1 ≤ (s.length : Int)
    · exact absurd h2 (by omega)
    · rw [if_neg h2]
      refine ⟨_, _, rfl, ?_⟩
      have := and255 ((IntKind.u64.wrap ((IntKind.u64.wrap ((IntKind.u64.wrap (st * 6364136223846793005)) + 0)) + 1442695040888963407)) / 1099511627776)
      rw [w_small (by omega)]
      exact this
theorem pick_ok {s : List Int} (hs : Bytes s) (p st n : Int) (hp : 0 ≤ p ∧ p ≤ 1000000) (hn : 1 ≤ n) : ∃ v p' st' : Int, spec_l00Src_pick.f s p st n = some (v, p', st') ∧ (0 ≤ v ∧ v < n) ∧ p ≤ p' ∧ p' ≤ p + 2 := by
  unfold spec_l00Src_pick.f
  by_cases h1 : n ≤ 1
  · rw [if_pos h1]
    exact ⟨_, _, _, rfl, by omega, by omega⟩
  · rw [if_neg h1]
    obtain ⟨v, st1, e1, hv⟩ := next_ok hs p st (by omega)
    rw [e1]
    show ∃ v' p' st', (if n > 200 then ((spec_l00Src_next.f s (p + 1) st1).bind fun bt136 => (if n = 0 then (none) else (some (Int.tmod (wrap64 ((wrap64 (v * 256)) + bt136.1)) n, bt136.2.1, bt136.2.2)))) else (if n = 0 then (none) else (some (Int.tmod v n, p + 1, st1)))) = some (v', p', st') ∧ _
    by_cases h2 : n > 200
    · rw [if_pos h2]
      obtain ⟨v2, st2, e2, hv2⟩ := next_ok hs (p + 1) st1 (by omega)
      rw [e2]
      have hx : wrap64 ((wrap64 (v * 256)) + v2) = v * 256 + v2 := by rw [w_small (n := v * 256) (by omega), w_small (by omega)]
      refine ⟨Int.tmod (wrap64 ((wrap64 (v * 256)) + v2)) n, p + 1 + 1, st2, ?_, ?_, by omega⟩
      · show (if n = 0 then none else _) = _
        rw [if_neg (by omega)]
      · rw [hx]
        exact ⟨Int.tmod_nonneg _ (by omega), Int.tmod_lt_of_pos _ (by omega)⟩
    · rw [if_neg h2, if_neg (by omega)]
      exact ⟨_, _, _, rfl, ⟨Int.tmod_nonneg _ (by omega), Int.tmod_lt_of_pos _ (by omega)⟩, by omega⟩
theorem among_ok {s : List Int} (hs : Bytes s) (p st : Int) (l : List Int) (hp : 0 ≤ p ∧ p ≤ 1000000) (hn : 1 ≤ l.length) : ∃ v p' st' : Int, spec_l00Src_among.f s p st l = some (v, p', st') ∧ v ∈ l ∧ p ≤ p' ∧ p' ≤ p + 2 := by
  obtain ⟨v, p', st', e, hv, hp'⟩ := pick_ok hs p st l.length hp (by omega)
  unfold spec_l00Src_among.f
  rw [e]
  refine ⟨rd l v, p', st', ?_, rd_mem hv.1 hv.2, hp'⟩
  show (if 0 ≤ v then (if v < (l.length : Int) then _ else none) else none) = _
  rw [if_pos hv.1, if_pos hv.2]
theorem one_ok {s : List Int} (hs : Bytes s) (p st n : Int) (hp : 0 ≤ p ∧ p ≤ 1000000) (hn : 1 ≤ n) : ∃ (b : Bool) (p' st' : Int), spec_l00Src_one.f s p st n = some (b, p', st') ∧ p ≤ p' ∧ p' ≤ p + 2 := by
  obtain ⟨v, p', st', e, hv, hp'⟩ := pick_ok hs p st n hp hn
  unfold spec_l00Src_one.f
  rw [e]
  exact ⟨_, _, _, rfl, hp'⟩
theorem drawBits {s : List Int} (hs : Bytes s) : ∃ b : Int, spec_R8Bits.f s = some b ∧ Bits b := by
  obtain ⟨v, p', st', e, hv, _⟩ := among_ok hs 0 0 [4, 8, 16] (by omega) (by decide)
  unfold spec_R8Bits.f spec_l00From.f
  refine ⟨v, ?_, ?_⟩
  · show ((spec_l00Src_among.f s 0 0 [4, 8, 16]).bind fun bt150 => some bt150.1) = _
    rw [e]; rfl
  · simp only [List.mem_cons, List.not_mem_nil, or_false] at hv
    unfold Bits
    omega
theorem drawLanes {s : List Int} (hs : Bytes s) : ∃ n : Nat, spec_R8Lanes.f s = some (n : Int) ∧ Lanes (n : Int) := by
  obtain ⟨v, p', st', e, hv, _⟩ := among_ok hs 0 0 [2, 4, 8, 16] (by omega) (by decide)
  have hv2 : v = 2 ∨ v = 4 ∨ v = 8 ∨ v = 16 := by
    simp only [List.mem_cons, List.not_mem_nil, or_false] at hv
    exact hv
  have e2 : ((v.toNat : Nat) : Int) = v := by omega
  refine ⟨v.toNat, ?_, by rw [e2]; exact hv2⟩
  unfold spec_R8Lanes.f spec_l00From.f
  show ((spec_l00Src_among.f s 0 0 [2, 4, 8, 16]).bind fun bt150 => some bt150.1) = _
  rw [e, e2]; rfl
theorem uB {b : Int} (h : Bits b) : IntKind.u64.wrap b = b ∧ IntKind.u64.wrap (b - 1) = b - 1 := by
  have := b_bounds h
  exact ⟨u_small (by omega), u_small (by omega)⟩
theorem good_ok {s : List Int} (hs : Bytes s) (p st b : Int) (hb : Bits b) (hp : 0 ≤ p ∧ p ≤ 900000) : ∃ x p' st' : Int, spec_l01DrawGood.f s p st b = some (x, p', st') ∧ Word b x ∧ p ≤ p' ∧ p' ≤ p + 4 := by
  obtain ⟨t, p1, st1, e1, hp1⟩ := one_ok hs p st 4 (by omega) (by omega)
  have hbb := b_bounds hb
  unfold spec_l01DrawGood.f
  rw [e1, (uB hb).1, (uB hb).2]
  show ∃ x p' st', (if t = true then _ else _) = _ ∧ _
  cases t with
  | true =>
    rw [if_pos rfl, if_pos (by omega), if_pos (by omega), shlB hb, shlB1 hb]
    obtain ⟨v, p2, st2, e2, hv, hp2⟩ := among_ok hs p1 st1 [0, wrap64 (M b - 1), M b / 2, wrap64 (M b / 2 - 1), 1] (by omega) (by simp)
    refine ⟨v, p2, st2, ?_, ⟨hb, ?_⟩, by omega⟩
    · show ((spec_l00Src_among.f s p1 st1 _).bind _) = _
      rw [e2]; rfl
    · have hM : 16 ≤ M b ∧ M b ≤ 65536 := by rcases hb with rfl | rfl | rfl <;> decide
      rw [w_small (by omega), w_small (by omega)] at hv
      simp only [List.mem_cons, List.not_mem_nil, or_false] at hv
      omega
  | false =>
    rw [if_neg (by simp), if_pos (by omega), shlB hb]
    have hM : 16 ≤ M b ∧ M b ≤ 65536 := by rcases hb with rfl | rfl | rfl <;> decide
    obtain ⟨v, p2, st2, e2, hv, hp2⟩ := pick_ok hs p1 st1 (M b) (by omega) (by omega)
    refine ⟨v, p2, st2, ?_, ⟨hb, hv⟩, by omega⟩
    show ((spec_l00Src_pick.f s p1 st1 (M b)).bind _) = _
    rw [e2]; rfl
theorem words_ok {s : List Int} (hs : Bytes s) (b : Int) (hb : Bits b) : ∀ (n : Nat) (acc : List Int) (p st : Int), acc.length + n ≤ 1000 → 0 ≤ p ∧ p + 4 * n ≤ 800000 → ∃ (l : List Int) (p' st' : Int), Ev (fun k => spec_l01DrawWords.l0 k b (n : Int) acc s p st) (acc ++ l, p', st') ∧ l.length = n ∧ Words b l := by
  intro n
  induction n with
  | zero =>
    intro acc p st _ _
    refine ⟨[], p, st, ⟨1, fun k hk => ?_⟩, rfl, fun x hx => by cases hx⟩
    obtain ⟨k, rfl⟩ : ∃ m, k = m + 1 := ⟨k - 1, by omega⟩
    simp only [spec_l01DrawWords.l0]
    rw [if_neg (by omega), List.append_nil]
  | succ n ih =>
    intro acc p st hn hp
    obtain ⟨x, p1, st1, e1, hx, hp1⟩ := good_ok hs p st b hb (by omega)
    obtain ⟨l, p2, st2, e2, hl, hw⟩ := ih (acc ++ [x]) p1 st1 (by simp; omega) (by omega)
    refine ⟨x :: l, p2, st2, Ev.step (f := fun k => spec_l01DrawWords.l0 k b (n : Int) (acc ++ [x]) s p1 st1) (fun k => ?_) ?_, by simp [hl], fun y hy => ?_⟩
    · simp only [spec_l01DrawWords.l0]
      rw [if_pos (by omega), e1]
      show (if acc.length < 17592186044416 then _ else none) = _
      rw [if_pos (by omega), w_small (by omega), show ((n + 1 : Nat) : Int) - 1 = (n : Int) by omega]
    · rw [List.append_assoc] at e2
      exact e2
    · rcases List.mem_cons.mp hy with rfl | h
      · exact hx
      · exact hw y h
theorem drawVector {s : List Int} (hs : Bytes s) (b : Int) (hb : Bits b) (n : Nat) (hn : n ≤ 1000) : ∃ l : List Int, Ev (fun k => spec_R8Vector.f k s b (n : Int)) l ∧ l.length = n ∧ Words b l := by
  obtain ⟨l, p', st', e, hl, hw⟩ := words_ok hs b hb n [] 0 0 (by simp; omega) (by omega)
  refine ⟨l, ?_, hl, hw⟩
  unfold spec_R8Vector.f spec_l00From.f spec_l01DrawWords.f
  exact Ev.bind (Ev.now (s, (0 : Int), (0 : Int))) (Ev.bind e (Ev.now _))
theorem r8At {s : List Int} (hs : Bytes s) (i n : Int) (hi : 0 ≤ i) (hn : 1 ≤ n) : ∃ v : Int, laws_r8At.f s i n = some v ∧ 0 ≤ v ∧ v < n := by
  unfold laws_r8At.f
  by_cases h1 : n ≤ 1
  · rw [if_pos h1]; exact ⟨0, rfl, by omega, by omega⟩
  · rw [if_neg h1]
    by_cases h2 : i ≥ (s.length : Int)
    · rw [if_pos h2]; exact ⟨0, rfl, by omega, by omega⟩
    · rw [if_neg h2, if_pos hi, if_pos (by omega), if_neg (by omega)]
      have hv := hs _ (rd_mem hi (by omega))
      rw [w_small (by omega)]
      exact ⟨_, rfl, Int.tmod_nonneg _ (by omega), Int.tmod_lt_of_pos _ (by omega)⟩
theorem r8Same (l : List Int) (h : l.length ≤ 1000000) : Ev (fun k => laws_r8Same.f k l l) true := by
  unfold laws_r8Same.f
  refine ev_if rfl ?_
  have key : ∀ d i : Nat, i + d = l.length → Ev (fun k => laws_r8Same.l0 k l l (i : Int)) true := by
    intro d
    induction d with
    | zero =>
      intro i hi
      refine ⟨1, fun k hk => ?_⟩
      obtain ⟨k, rfl⟩ : ∃ m, k = m + 1 := ⟨k - 1, by omega⟩
      simp only [laws_r8Same.l0]
      rw [if_neg (by omega)]
    | succ d ih =>
      intro i hi
      refine Ev.step (fun k => ?_) (ih (i + 1) (by omega))
      simp only [laws_r8Same.l0]
      rw [if_pos (by omega), if_pos (by omega), if_pos (by omega), if_pos trivial, w1 (by omega)]
  exact key l.length 0 (by omega)

end Go.Proofs.Ytpcjjminopdofaa.V
