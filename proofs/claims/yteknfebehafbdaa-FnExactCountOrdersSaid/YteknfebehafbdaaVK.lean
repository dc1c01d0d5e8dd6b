/- In how many ways statements can stand first: a table by sets, and what it counts. No condition but at most ten statements. -/
import Derived.Test.YteknfebehafbdaaH5
import Derived.Test.YteknfebehafbdaaV0
import Derived.Test.YteknfebehafbdaaK0
namespace Go.Proofs.Yteknfebehafbdaa.V
open Go.RowKit Go.Proofs.Yteknfebehafbdaa.K Go.Proofs.Yteknfebehafbdaa.Bx Go.Proofs.YteknfebehafbdaaW.PrintWords Go.Proofs.YteknfebehafbdaaW.PrintLast
set_option linter.unusedVariables false
set_option linter.unusedSimpArgs false

def sm : Nat → (Nat → Nat) → Nat
  | 0, _ => 0
  | n + 1, f => sm n f + f n
theorem sm_congr {f g : Nat → Nat} : ∀ n : Nat, (∀ j, j < n → f j = g j) → sm n f = sm n g
  | 0, _ => rfl
  | n + 1, h => by unfold sm; rw [sm_congr n (fun j hj => h j (by omega)), h n (by omega)]
theorem sm_le {f : Nat → Nat} {b : Nat} : ∀ n : Nat, (∀ j, j < n → f j ≤ b) → sm n f ≤ n * b
  | 0, _ => by unfold sm; omega
  | n + 1, h => by
    have h1 := sm_le n (fun j hj => h j (by omega))
    have h2 := h n (by omega)
    have h3 : (n + 1) * b = n * b + b := Nat.succ_mul n b
    unfold sm; omega
theorem sm_zero : ∀ n : Nat, sm n (fun _ => 0) = 0
  | 0 => rfl
  | n + 1 => by show sm n _ + 0 = 0; rw [sm_zero n]
theorem sm_one {f g : Nat → Nat} {i : Nat} : ∀ n : Nat, i < n → (∀ j, j < n → j ≠ i → g j = f j) → sm n g + f i = sm n f + g i
  | 0, h, _ => by omega
  | n + 1, h, he => by
    unfold sm
    by_cases hi : i = n
    · subst hi
      rw [sm_congr (f := g) (g := f) i (fun j hj => he j (by omega) (by omega))]
      omega
    · have h1 := sm_one n (by omega) (fun j hj hne => he j (by omega) hne)
      have h2 := he n (by omega) (fun h => hi h.symm)
      omega
theorem sm_ge {f : Nat → Nat} {i : Nat} : ∀ n : Nat, i < n → f i ≤ sm n f
  | 0, h => by omega
  | n + 1, h => by
    unfold sm
    by_cases hi : i = n
    · subst hi; omega
    · have := sm_ge (f := f) (i := i) n (by omega); omega

/-- How many of the first n bits are set. -/
def pc : Nat → Nat → Nat
  | 0, _ => 0
  | n + 1, T => pc n T + if T.testBit n then 1 else 0
theorem tb_xor (T j i : Nat) : (T ^^^ 2 ^ j).testBit i = (T.testBit i ^^ decide (j = i)) := by rw [Nat.testBit_xor, Nat.testBit_two_pow]
theorem tb_or (T j i : Nat) : (T ||| 2 ^ j).testBit i = (T.testBit i || decide (j = i)) := by rw [Nat.testBit_or, Nat.testBit_two_pow]
theorem pc_far {T j : Nat} : ∀ n : Nat, n ≤ j → pc n (T ^^^ 2 ^ j) = pc n T
  | 0, _ => rfl
  | n + 1, h => by
    unfold pc
    rw [pc_far n (by omega), tb_xor, decide_eq_false (by omega : ¬ j = n), Bool.xor_false]
theorem pc_xor {T j : Nat} (hj : T.testBit j = true) : ∀ n : Nat, j < n → pc n T = pc n (T ^^^ 2 ^ j) + 1
  | 0, h => by omega
  | n + 1, h => by
    unfold pc
    rw [tb_xor]
    by_cases e : j = n
    · subst e
      rw [pc_far j (Nat.le_refl _), hj, decide_eq_true rfl]
      rfl
    · have := pc_xor hj n (by omega)
      rw [decide_eq_false e, Bool.xor_false, this]
      omega
theorem pc_le (T : Nat) : ∀ n : Nat, pc n T ≤ n
  | 0 => Nat.le_refl _
  | n + 1 => by unfold pc; have := pc_le T n; split <;> omega
theorem pc_nil : ∀ n : Nat, pc n 0 = 0
  | 0 => rfl
  | n + 1 => by unfold pc; rw [pc_nil n, Nat.zero_testBit]; rfl
theorem pc_pos {T : Nat} : ∀ n : Nat, T ≠ 0 → T < 2 ^ n → ∃ j, j < n ∧ T.testBit j = true := by
  intro n h0 hT
  obtain ⟨j, hj⟩ := Nat.exists_testBit_of_ne_zero h0
  refine ⟨j, ?_, hj⟩
  by_cases h : j < n
  · exact h
  · have := Nat.testBit_lt_two_pow (Nat.lt_of_lt_of_le hT (Nat.pow_le_pow_right (by decide) (by omega : n ≤ j)))
    rw [this] at hj; cases hj
theorem xor_lt {T j : Nat} (h : T.testBit j = true) : T ^^^ 2 ^ j < T := by
  have hb : (T ^^^ 2 ^ j).testBit j = false := by rw [tb_xor, h, decide_eq_true rfl]; rfl
  have e : T &&& (T ^^^ 2 ^ j) = T ^^^ 2 ^ j := by
    apply Nat.eq_of_testBit_eq
    intro i
    rw [Nat.testBit_and, tb_xor]
    by_cases e : j = i
    · subst e; rw [h, decide_eq_true rfl]; rfl
    · rw [decide_eq_false e]; simp
  have h1 : T &&& (T ^^^ 2 ^ j) ≤ T := Nat.and_le_left
  rw [e] at h1
  have h2 : T ^^^ 2 ^ j ≠ T := by intro h2; rw [h2, h] at hb; cases hb
  omega
theorem bit_iff {T d i : Nat} (h : d.testBit i = false) : (T.testBit i = true ∧ T ^^^ 2 ^ i = d) ↔ T = d ||| 2 ^ i := by
  constructor
  · rintro ⟨h1, h2⟩
    apply Nat.eq_of_testBit_eq
    intro j
    rw [tb_or, ← h2, tb_xor]
    by_cases e : i = j
    · subst e; rw [h1, decide_eq_true rfl]; rfl
    · rw [decide_eq_false e]; simp
  · rintro rfl
    refine ⟨by rw [tb_or, decide_eq_true rfl, Bool.or_true], ?_⟩
    apply Nat.eq_of_testBit_eq
    intro j
    rw [tb_xor, tb_or]
    by_cases e : i = j
    · subst e; rw [h, decide_eq_true rfl]; rfl
    · rw [decide_eq_false e]; simp
/-- Statement i can stand behind those of a set. -/
def okN (l : List S58) (d i : Nat) : Bool := !(d.testBit i) && (List.range i).all fun j => d.testBit j || !(mst (rd_T58 l (j : Int)) (rd_T58 l (i : Int)))
theorem okN_free {l : List S58} {d i : Nat} (h : okN l d i = true) : d.testBit i = false := by
  unfold okN at h
  rw [Bool.and_eq_true] at h
  simpa using h.1
/-- In how many ways the statements of a set can stand first, m of them. -/
def cnt (l : List S58) : Nat → Nat → Nat
  | 0, T => if T = 0 then 1 else 0
  | m + 1, T => sm l.length fun j => if (T.testBit j && okN l (T ^^^ 2 ^ j) j) = true then cnt l m (T ^^^ 2 ^ j) else 0
theorem cnt_le (l : List S58) : ∀ m T : Nat, cnt l m T ≤ l.length ^ m
  | 0, T => by unfold cnt; split <;> simp
  | m + 1, T => by
    unfold cnt
    rw [Nat.pow_succ, Nat.mul_comm]
    refine sm_le l.length (fun j _ => ?_)
    split
    · exact cnt_le l m _
    · omega
def cntG (l : List S58) (T : Nat) : Nat := cnt l (pc l.length T) T
theorem cntG_le {l : List S58} (h : l.length ≤ 10) (T : Nat) : cntG l T ≤ 10000000000 := by
  unfold cntG
  refine Nat.le_trans (cnt_le l _ _) ?_
  refine Nat.le_trans (Nat.pow_le_pow_left h _) ?_
  exact Nat.le_trans (Nat.pow_le_pow_right (by decide) (Nat.le_trans (pc_le T l.length) h)) (by decide)
/-- The table behind the sets below d, and behind the first i statements for d itself. -/
def F (l : List S58) (d i T : Nat) : Nat := if T = 0 then 1 else sm l.length fun j => if (T.testBit j && okN l (T ^^^ 2 ^ j) j && (decide (T ^^^ 2 ^ j < d) || (decide (T ^^^ 2 ^ j = d) && decide (j < i)))) = true then cntG l (T ^^^ 2 ^ j) else 0
theorem F_le {l : List S58} (h : l.length ≤ 10) (d i T : Nat) : F l d i T ≤ 100000000000 := by
  unfold F
  split
  · omega
  · refine Nat.le_trans (sm_le (b := 10000000000) l.length (fun j _ => ?_)) (by omega)
    split
    · exact cntG_le h _
    · omega
theorem F_next (l : List S58) (d T : Nat) : F l d l.length T = F l (d + 1) 0 T := by
  unfold F
  split
  · rfl
  · refine sm_congr _ (fun j hj => ?_)
    have e : (decide (T ^^^ 2 ^ j < d) || (decide (T ^^^ 2 ^ j = d) && decide (j < l.length))) = (decide (T ^^^ 2 ^ j < d + 1) || (decide (T ^^^ 2 ^ j = d + 1) && decide (j < 0))) := by
      rw [decide_eq_true hj, decide_eq_false (by omega : ¬ j < 0), Bool.and_true, Bool.and_false, Bool.or_false, ← Bool.decide_or]
      exact decide_eq_decide.mpr (by omega)
    rw [e]
theorem F_start (l : List S58) (T : Nat) : F l 0 0 T = if T = 0 then 1 else 0 := by
  unfold F
  split
  · rfl
  · rw [sm_congr (g := fun _ => 0) _ (fun j hj => ?_), sm_zero]
    rw [decide_eq_false (by omega : ¬ (T ^^^ 2 ^ j < 0)), decide_eq_false (by omega : ¬ j < 0)]
    simp
theorem F_full (l : List S58) {d i T : Nat} (hT : T < 2 ^ l.length) (hd : T ≤ d) : F l d i T = cntG l T := by
  show F l d i T = cnt l (pc l.length T) T
  unfold F
  by_cases h0 : T = 0
  · rw [if_pos h0, h0, pc_nil]; rfl
  rw [if_neg h0]
  obtain ⟨j, hj, hb⟩ := pc_pos l.length h0 hT
  rw [pc_xor hb _ hj]
  show _ = sm l.length _
  refine sm_congr _ (fun i' hi' => ?_)
  cases hb' : T.testBit i' with
  | false => rfl
  | true =>
    have := xor_lt hb'
    rw [decide_eq_true (by omega : T ^^^ 2 ^ i' < d), Bool.true_or, Bool.and_true]
    have e : pc l.length (T ^^^ 2 ^ i') = pc l.length (T ^^^ 2 ^ j) := by
      have e1 := pc_xor hb _ hj
      have e2 := pc_xor hb' _ hi'
      omega
    show (if _ then cnt l (pc l.length (T ^^^ 2 ^ i')) (T ^^^ 2 ^ i') else 0) = _
    rw [e]
theorem F_skip {l : List S58} {d i : Nat} (h : okN l d i = false) (T : Nat) : F l d (i + 1) T = F l d i T := by
  unfold F
  split
  · rfl
  · refine sm_congr _ (fun j hj => ?_)
    by_cases e : j = i
    · subst e
      by_cases e2 : T ^^^ 2 ^ j = d
      · rw [e2, h]; simp
      · rw [decide_eq_false e2]; rfl
    · rw [decide_eq_decide.mpr (by omega : j < i + 1 ↔ j < i)]
theorem F_none {l : List S58} {d : Nat} (h : cntG l d = 0) (i T : Nat) : F l d i T = F l d l.length T := by
  unfold F
  split
  · rfl
  · refine sm_congr _ (fun j hj => ?_)
    by_cases e2 : T ^^^ 2 ^ j = d
    · rw [e2, h]; simp
    · rw [decide_eq_false e2]; rfl
theorem F_put {l : List S58} {d i : Nat} (h : okN l d i = true) (hi : i < l.length) (T : Nat) : F l d (i + 1) T = if T = d ||| 2 ^ i then F l d i T + cntG l d else F l d i T := by
  have hf := okN_free h
  by_cases hT : T = d ||| 2 ^ i
  · rw [if_pos hT]
    obtain ⟨h1, h2⟩ := (bit_iff hf).mpr hT
    have h0 : T ≠ 0 := by intro h0; rw [h0, Nat.zero_testBit] at h1; cases h1
    unfold F
    rw [if_neg h0, if_neg h0]
    have := sm_one (i := i) (f := fun j => if (T.testBit j && okN l (T ^^^ 2 ^ j) j && (decide (T ^^^ 2 ^ j < d) || (decide (T ^^^ 2 ^ j = d) && decide (j < i)))) = true then cntG l (T ^^^ 2 ^ j) else 0) (g := fun j => if (T.testBit j && okN l (T ^^^ 2 ^ j) j && (decide (T ^^^ 2 ^ j < d) || (decide (T ^^^ 2 ^ j = d) && decide (j < i + 1)))) = true then cntG l (T ^^^ 2 ^ j) else 0) l.length hi (fun j hj hne => by
      show (if _ then _ else _) = (if _ then _ else _)
      rw [decide_eq_decide.mpr (by omega : j < i + 1 ↔ j < i)])
    rw [h1, h2, h, decide_eq_false (by omega : ¬ d < d), decide_eq_true (by omega : i < i + 1), decide_eq_false (by omega : ¬ i < i), decide_eq_true rfl] at this
    simp only [Bool.and_true, Bool.and_false, Bool.or_true, Bool.or_false, Bool.false_eq_true, if_true, if_false, Nat.add_zero] at this
    exact this
  · rw [if_neg hT]
    unfold F
    split
    · rfl
    · refine sm_congr _ (fun j hj => ?_)
      by_cases e : j = i
      · subst e
        by_cases e2 : T ^^^ 2 ^ j = d
        · cases hb : T.testBit j with
          | false => rfl
          | true => exact absurd ((bit_iff hf).mp ⟨hb, e2⟩) hT
        · rw [decide_eq_false e2]; rfl
      · rw [decide_eq_decide.mpr (by omega : j < i + 1 ↔ j < i)]
/-- The table as a list. -/
def tab (l : List S58) (d i : Nat) : List Int := (List.range (2 ^ l.length)).map fun T => ((F l d i T : Nat) : Int)
theorem tab_len (l : List S58) (d i : Nat) : (tab l d i).length = 2 ^ l.length := by unfold tab; simp
theorem tab_rd {l : List S58} {d i T : Nat} (h : T < 2 ^ l.length) : rd (tab l d i) (T : Int) = ((F l d i T : Nat) : Int) := by unfold tab; rw [rd_map h]
theorem tab_congr {l : List S58} {d i d' i' : Nat} (h : ∀ T, F l d i T = F l d' i' T) : tab l d i = tab l d' i' := by unfold tab; simp only [h]
theorem or_lt {l : List S58} {d i : Nat} (hd : d < 2 ^ l.length) (hi : i < l.length) : d ||| 2 ^ i < 2 ^ l.length := Nat.or_lt_two_pow hd (Nat.pow_lt_pow_right (by decide) hi)
theorem set_range {f g : Nat → Int} {N t : Nat} {v : Int} (h : ∀ j, j < N → g j = if j = t then v else f j) : ((List.range N).map f).set t v = (List.range N).map g := by
  apply List.ext_getElem
  · simp
  · intro j h1 h2
    simp only [List.length_set, List.length_map, List.length_range] at h1
    rw [List.getElem_set]
    simp only [List.getElem_map, List.getElem_range]
    rw [h j h1]
    by_cases e : t = j
    · rw [if_pos e, if_pos e.symm]
    · rw [if_neg e, if_neg (fun h => e h.symm)]
theorem tab_put {l : List S58} {d i : Nat} (hl : l.length ≤ 10) (h : okN l d i = true) (hd : d < 2 ^ l.length) (hi : i < l.length) : (tab l d i).set (d ||| 2 ^ i) (wrap64 (rd (tab l d i) ((d ||| 2 ^ i : Nat) : Int) + ((cntG l d : Nat) : Int))) = tab l d (i + 1) := by
  rw [tab_rd (or_lt hd hi)]
  have h1 := F_le hl d i (d ||| 2 ^ i)
  have h2 := cntG_le hl d
  rw [w_small (by omega)]
  unfold tab
  refine set_range (fun j hj => ?_)
  rw [F_put h hi]
  by_cases e : j = d ||| 2 ^ i
  · rw [if_pos e, if_pos e, e]; omega
  · rw [if_neg e, if_neg e]
theorem tab_start (l : List S58) : (List.replicate (2 ^ l.length) (0 : Int)).set 0 1 = tab l 0 0 := by
  have e : List.replicate (2 ^ l.length) (0 : Int) = (List.range (2 ^ l.length)).map fun _ => (0 : Int) := by
    apply List.ext_getElem
    · simp
    · intro j h1 h2; simp
  rw [e]
  refine set_range (fun j hj => ?_)
  rw [F_start]
  split <;> rfl
end Go.Proofs.Yteknfebehafbdaa.V
