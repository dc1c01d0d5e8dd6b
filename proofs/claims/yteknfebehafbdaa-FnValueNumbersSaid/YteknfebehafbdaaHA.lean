/- Arrays of 32 numbers and maps keyed by three numbers, that a call has made: cells, entries, what a turn leaves. No condition but these. -/
import Derived.Test.YteknfebehafbdaaK0
import Derived.Test.YteknfebehafbdaaH0
import Derived.Test.YteknfebehafbdaaH4
import Derived.Test.YteknfebehafbdaaF0
import Derived.DeepKeys5
import Derived.Laws.IdiomMaps
import Derived.ChangeMaps5
namespace Go.Proofs.Yteknfebehafbdaa.K
open Go.RowKit Go.Shelf Go.Proofs.YteknfebehafbdaaW.PrintWords Go.Proofs.YteknfebehafbdaaW.PrintLast Go.Proofs.YteknfebehafbdaaW.PrintMore
attribute [local go_sem] max2_int min2_int max_two min_two max_three min_three max_four min_four   -- for this text's walks alone
set_option linter.unusedVariables false
set_option linter.unusedSimpArgs false

/-- 32 numbers that lie in a block of the call's own. -/
def ArrI (w : World) (base g : Nat) (l : List Int) : Prop := l.length = 32 ∧ Kd.R (Kd.int .i64) 81 w base (fun _ => True) (.slice (some ⟨g, 0, none⟩) 32 32) l
theorem ArrI_below {w w1 : World} {base g : Nat} {l : List Int} (h : ArrI w base g l) (hb : Below w.heap.size w w1) : ArrI w1 base g l := ⟨h.1, Kd.R_below h.2 hb⟩
theorem ArrI_base {w : World} {base g : Nat} {l : List Int} (h : ArrI w base g l) : base ≤ g := Kd.R_base h.2 g rfl
theorem ArrI_lt {w : World} {base g : Nat} {l : List Int} (h : ArrI w base g l) : g < w.heap.size := Kd.R_lt h.2 g rfl
theorem ArrI_typed {w : World} {base g : Nat} {l : List Int} (h : ArrI w base g l) : ∃ cells, w.heap[g]? = some (.cells cells 81 (0, 0)) := Kd.R_typed h.2 g rfl
theorem ArrI_far {w : World} {base g : Nat} {l : List Int} (h : ArrI w base g l) {p : Addr} (hp : g ≠ p.block) (u : Value) : ArrI (w.setCell p u) base g l :=
  ⟨h.1, Kd.R_mono (Kd.R_far (Kd.R_tight rfl h.2) (p := p) (fun k hk => by injection hk with hk; rw [hk]; exact hp) u) (fun _ _ => trivial)⟩
theorem ArrI_cell {w : World} {base g : Nat} {l : List Int} (h : ArrI w base g l) (i : Int) (h0 : 0 ≤ i) (h1 : i ≤ 31) : w.cell? ⟨g, i.toNat, none⟩ = some (.int .i64 (rd l i)) ∧ w.frozen? ⟨g, i.toNat, none⟩ = false := by
  obtain ⟨h2, h3⟩ := h
  have e : l.length = 32 := h2
  rw [← e] at h3
  exact Kd.R_celln 0 h3 i h0 (by omega)
theorem ArrI_put {w : World} {base g : Nat} {l : List Int} (h : ArrI w base g l) (i : Int) (x : Int) : ArrI (w.setCell ⟨g, i.toNat, none⟩ (.int .i64 x)) base g (l.set i.toNat x) := by
  refine ⟨by rw [List.length_set]; exact h.1, ?_⟩
  exact Kd.R_putn h.2 i x
def zero32 : Array Value := #[.int .i64 0, .int .i64 0, .int .i64 0, .int .i64 0, .int .i64 0, .int .i64 0, .int .i64 0, .int .i64 0, .int .i64 0, .int .i64 0, .int .i64 0, .int .i64 0, .int .i64 0, .int .i64 0, .int .i64 0, .int .i64 0, .int .i64 0, .int .i64 0, .int .i64 0, .int .i64 0, .int .i64 0, .int .i64 0, .int .i64 0, .int .i64 0, .int .i64 0, .int .i64 0, .int .i64 0, .int .i64 0, .int .i64 0, .int .i64 0, .int .i64 0, .int .i64 0]
theorem ArrI_new (w : World) (base : Nat) (hb : base ≤ w.heap.size) : ArrI (w.alloc (.cells zero32 81)) base w.heap.size (List.replicate 32 0) := by
  refine ⟨by simp, Kd.R_of_own (xs := List.replicate 32 (0 : Int)) ?_ (fun _ _ => trivial)⟩
  have h := World.ownsRow_lit (size := 1) (e := 81) w zero32 32 hb (by decide) rfl
  exact h
/-- A key of three numbers. -/
def kv (k : Int × Int × Int) : Value := .agg #[.int .i64 k.1, .int .i64 k.2.1, .int .i64 k.2.2]
def KOk (k : Int × Int × Int) : Prop := (-9223372036854775808 ≤ k.1 ∧ k.1 ≤ 9223372036854775807) ∧ (-9223372036854775808 ≤ k.2.1 ∧ k.2.1 ≤ 9223372036854775807) ∧ (-9223372036854775808 ≤ k.2.2 ∧ k.2.2 ≤ 9223372036854775807)
theorem kv_inj {a b : Int × Int × Int} (h : kv a = kv b) : a = b := by
  obtain ⟨a1, a2, a3⟩ := a
  obtain ⟨b1, b2, b3⟩ := b
  simp only [kv] at h
  injection h with h
  have h := congrArg Array.toList h
  simp at h
  obtain ⟨rfl, rfl, rfl⟩ := h
  rfl
theorem key_law : WideMaps.KeyLaw Try.prog 83 := deep_law_gate F.laid (of_decide_eq_true (by kernel_rfl)) (of_decide_eq_true (by kernel_rfl)) (by kernel_rfl) (by rw [Try.underlying83])
theorem key_type : Try.prog.keyType 83 = true := by kernel_rfl
theorem cells83 : Try.prog.cellsOf 83 = 3 := by kernel_rfl
theorem cells2 : Try.prog.cellsOf 2 = 1 := by kernel_rfl
theorem types_size : ∃ n, Try.prog.types.size = n + 1 := ⟨Try.prog.types.size - 1, by kernel_rfl⟩
theorem wf_i64 {n : Int} (h : -9223372036854775808 ≤ n ∧ n ≤ 9223372036854775807) : (Lit.int .i64 n).wf = true := by
  simp only [Lit.wf]
  rw [Bool.and_eq_true, decide_eq_true_iff, decide_eq_true_iff]
  exact ⟨h.1, h.2⟩
theorem key_ok {k : Int × Int × Int} (h : KOk k) : ∃ l, keyOf Try.prog 83 (kv k) = some l := by
  obtain ⟨k1, k2, k3⟩ := k
  obtain ⟨h1, h2, h3⟩ := h
  have w1 := wf_i64 h1
  have w2 := wf_i64 h2
  have w3 := wf_i64 h3
  obtain ⟨n, hn⟩ := types_size
  unfold keyOf
  rw [Try.underlying83]
  simp only [key_type, Bool.true_and, hn]
  simp [kv, Value.formed, Value.cells, Program.keyLits, Try.underlying83, Try.underlying2, cells83, cells2, w1, w2, w3, List.range_succ]
/-- A map in a block of the call's own: the i-th key has 32 + i. -/
def MapAt (w : World) (base gm : Nat) (D : List (Int × Int × Int)) : Prop := base ≤ gm ∧ ∃ es clock, w.heap[gm]? = some (.map es clock) ∧ es.size = D.length ∧ ∀ (i : Nat) k, D[i]? = some k → ∃ e : MapEntry, es[i]? = some e ∧ e.key = kv k ∧ e.val = .int .i64 (32 + (i : Int))
theorem MapAt_move {w w1 : World} {base gm : Nat} {D : List (Int × Int × Int)} (h : MapAt w base gm D) (he : w1.heap[gm]? = w.heap[gm]?) : MapAt w1 base gm D := by
  obtain ⟨h1, es, c, h2, h3⟩ := h
  exact ⟨h1, es, c, he.trans h2, h3⟩
theorem MapAt_lt {w : World} {base gm : Nat} {D : List (Int × Int × Int)} (h : MapAt w base gm D) : gm < w.heap.size := by
  obtain ⟨h1, es, c, h2, h3⟩ := h
  exact (Array.getElem?_eq_some_iff.mp h2).1
theorem MapAt_below {w w1 : World} {base gm : Nat} {D : List (Int × Int × Int)} (h : MapAt w base gm D) (hb : Below w.heap.size w w1) : MapAt w1 base gm D := MapAt_move h (hb.block gm (MapAt_lt h))
theorem MapAt_far {w : World} {base gm : Nat} {D : List (Int × Int × Int)} (h : MapAt w base gm D) {p : Addr} (hp : gm ≠ p.block) (u : Value) : MapAt (w.setCell p u) base gm D := MapAt_move h (Below.heap_setCell w p u gm hp)
theorem MapAt_ne {w : World} {base gm : Nat} {D : List (Int × Int × Int)} (h : MapAt w base gm D) {g t : Nat} {cells : Array Value} {fr : Nat × Nat} (hg : w.heap[g]? = some (.cells cells t fr)) : g ≠ gm := by
  rintro rfl
  obtain ⟨h1, es, c, h2, h3⟩ := h
  rw [h2] at hg
  cases hg
theorem MapAt_new (w : World) (base : Nat) (hb : base ≤ w.heap.size) : MapAt (w.alloc (.map #[] 0)) base w.heap.size [] := ⟨hb, #[], 0, heap_alloc_new w _, rfl, fun i k h => by simp at h⟩
theorem look_hit {w : World} {base gm i : Nat} {D : List (Int × Int × Int)} {key : Int × Int × Int} (h : MapAt w base gm D) (hD : D.Nodup) (hk : ∀ k ∈ D, KOk k) (hi : D[i]? = some key) :
    (Instr.lookup 82 (.map (some gm)) (kv key) true).run Try.prog w = .ok (.tuple #[.int .i64 (32 + (i : Int)), .bool true]) w := by
  obtain ⟨h1, es, c, hb, hs, he⟩ := h
  obtain ⟨l, hl⟩ := key_ok (hk key (List.mem_of_getElem? hi))
  have hkeys : ∀ e ∈ es.toList, ∃ l, keyOf Try.prog 83 e.key = some l := by
    intro e hm
    obtain ⟨j, hj, e1⟩ := List.getElem_of_mem hm
    rw [Array.length_toList] at hj
    obtain ⟨e', e2, e3, _⟩ := he j _ (List.getElem?_eq_getElem (by omega : j < D.length))
    have : e' = e := by
      rw [Array.getElem?_eq_getElem hj] at e2
      rw [← e1, Array.getElem_toList]; exact (Option.some.inj e2).symm
    rw [← this, e3]
    exact key_ok (hk _ (List.getElem_mem _))
  obtain ⟨ei, f1, f2, f3⟩ := he i key hi
  rcases key_law.find w hl es.toList hkeys with ⟨_, h2⟩ | ⟨j, e0, h2, h3, h4⟩
  · exact absurd f2 (h2 ei (List.mem_of_getElem? (by rw [Array.getElem?_toList]; exact f1)))
  · rw [Array.getElem?_toList] at h3
    have hj : j < es.size := (Array.getElem?_eq_some_iff.mp h3).1
    obtain ⟨e', g1, g2, g3⟩ := he j _ (List.getElem?_eq_getElem (by omega : j < D.length))
    obtain rfl : e' = e0 := Option.some.inj (g1.symm.trans h3)
    have hkk : D[j]'(by omega) = key := kv_inj (g2.symm.trans h4)
    obtain ⟨hi2, hi3⟩ := List.getElem?_eq_some_iff.mp hi
    have hij : j = i := by
      have hp := List.pairwise_iff_getElem.mp hD
      rcases Nat.lt_trichotomy j i with h | h | h
      · exact absurd (hkk.trans hi3.symm) (hp j i (by omega) hi2 h)
      · exact h
      · exact absurd (hi3.trans hkk.symm) (hp i j hi2 (by omega) h)
    subst hij
    simp [Instr.lookup, run_underlying Try.underlying82, MapKept.run_getObj_map hb, key_law.check w _ hl, h2, Result.andThen, g3]
theorem look_keys {w : World} {base gm : Nat} {D : List (Int × Int × Int)} {es : Array MapEntry} (hk : ∀ k ∈ D, KOk k) (hs : es.size = D.length) (he : ∀ (i : Nat) k, D[i]? = some k → ∃ e : MapEntry, es[i]? = some e ∧ e.key = kv k ∧ e.val = .int .i64 (32 + (i : Int))) : ∀ e ∈ es.toList, ∃ k ∈ D, e.key = kv k := by
  intro e hm
  obtain ⟨j, hj, e1⟩ := List.getElem_of_mem hm
  rw [Array.length_toList] at hj
  obtain ⟨e', e2, e3, _⟩ := he j _ (List.getElem?_eq_getElem (by omega : j < D.length))
  have : e' = e := by
    rw [Array.getElem?_eq_getElem hj] at e2
    rw [← e1, Array.getElem_toList]; exact (Option.some.inj e2).symm
  rw [← this]
  exact ⟨_, List.getElem_mem _, e3⟩
theorem find_miss {w : World} {base gm : Nat} {D : List (Int × Int × Int)} {key : Int × Int × Int} {es : Array MapEntry} (hk : ∀ k ∈ D, KOk k) (hs : es.size = D.length) (he : ∀ (i : Nat) k, D[i]? = some k → ∃ e : MapEntry, es[i]? = some e ∧ e.key = kv k ∧ e.val = .int .i64 (32 + (i : Int))) {l : Lit} (hl : keyOf Try.prog 83 (kv key) = some l) (hm : key ∉ D) :
    (Instr.findKey 83 (kv key) es.toList).run Try.prog w = .ok none w := by
  have hks := look_keys (w := w) (base := base) (gm := gm) hk hs he
  rcases key_law.find w hl es.toList (fun e hme => by obtain ⟨k, h1, h2⟩ := hks e hme; rw [h2]; exact key_ok (hk k h1)) with ⟨h1, _⟩ | ⟨j, e0, h2, h3, h4⟩
  · exact h1
  · obtain ⟨k, g1, g2⟩ := hks e0 (List.mem_of_getElem? h3)
    exact absurd (kv_inj (g2.symm.trans h4) ▸ g1) hm
theorem look_miss {w : World} {base gm : Nat} {D : List (Int × Int × Int)} {key : Int × Int × Int} (h : MapAt w base gm D) (hk : ∀ k ∈ D, KOk k) (hkey : KOk key) (hm : key ∉ D) :
    (Instr.lookup 82 (.map (some gm)) (kv key) true).run Try.prog w = .ok (.tuple #[.int .i64 0, .bool false]) w := by
  obtain ⟨h1, es, c, hb, hs, he⟩ := h
  obtain ⟨l, hl⟩ := key_ok hkey
  have hf := find_miss (w := w) (base := base) (gm := gm) hk hs he hl hm
  have hz : (zeroValue 2).run Try.prog w = .ok (.int .i64 0) w := by go_simp
  simp [Instr.lookup, run_underlying Try.underlying82, MapKept.run_getObj_map hb, key_law.check w _ hl, hf, hz, Result.andThen]
theorem map_update {w : World} {base gm : Nat} {D : List (Int × Int × Int)} {key : Int × Int × Int} (h : MapAt w base gm D) (hk : ∀ k ∈ D, KOk k) (hkey : KOk key) (hm : key ∉ D) (v : Int) :
    ∃ w1, (Instr.mapUpdate 82 (.map (some gm)) (kv key) (.int .i64 v)).run Try.prog w = .ok () w1 ∧ (∀ k, k ≠ gm → w1.heap[k]? = w.heap[k]?) ∧ Below base w w1 ∧ (v = 32 + (D.length : Int) → MapAt w1 base gm (D ++ [key])) := by
  obtain ⟨h1, es, c, hb, hs, he⟩ := h
  obtain ⟨l, hl⟩ := key_ok hkey
  have hf := find_miss (w := w) (base := base) (gm := gm) hk hs he hl hm
  have hne : ∀ k, k ≠ gm → (ChangeMaps.setBlock w gm (.map (es.push ⟨kv key, .int .i64 v, c⟩) (c + 1))).heap[k]? = w.heap[k]? := fun k hk => ChangeMaps.heap_setBlock_other hb _ hk
  refine ⟨ChangeMaps.setBlock w gm (.map (es.push ⟨kv key, .int .i64 v, c⟩) (c + 1)), ?_, hne, ⟨rfl, rfl, rfl, by simp [ChangeMaps.setBlock], fun k hk => hne k (by omega)⟩, fun hv => ⟨h1, _, _, ChangeMaps.heap_setBlock_same hb _, by rw [Array.size_push, List.length_append, hs]; rfl, fun i k hi => ?_⟩⟩
  · simp [Instr.mapUpdate, run_underlying Try.underlying82, MapKept.run_getObj_map hb, key_law.check w _ hl, hf, MapKept.run_setObj_map _ hb, Result.andThen, ChangeMaps.setBlock]
  · by_cases h2 : i < D.length
    · rw [List.getElem?_append_left h2] at hi
      obtain ⟨e, e1, e2⟩ := he i k hi
      exact ⟨e, by rw [Array.getElem?_push, if_neg (by omega)]; exact e1, e2⟩
    · have hi3 : i = D.length := by
        have := (List.getElem?_eq_some_iff.mp hi).1
        rw [List.length_append] at this
        have e1 : [key].length = 1 := rfl
        omega
      subst hi3
      rw [List.getElem?_append_right (Nat.le_refl _), Nat.sub_self] at hi
      obtain rfl : key = k := Option.some.inj hi
      exact ⟨_, by rw [Array.getElem?_push, if_pos hs.symm], rfl, by rw [hv]⟩
section
variable {P : Program}
theorem wpList_look {ops : Array Oper} {rest : List Oper} {o : Oper} {a : Act} {w : World} {Q : Exit → Act → World → Prop} (hgd : o.guard = none) (t : TypeId) (m k : Operand) (ho : o.op = .lookup t m k true) (v : Value) (hrun : (Instr.lookup t (a.eval m) (a.eval k) true).run P w = .ok v w)
    (h : wpList P ops Q rest (a.put o.dst v) w) : wpList P ops Q (o :: rest) a w :=
  wpList_plain hgd fun _ hK => by
    unfold Oper.wp execOp
    simp only [ho, Sem.run_bind, hrun, Sem.run_pure, Result.andThen_ok]
    exact hK _ _ h
theorem wpList_update {ops : Array Oper} {rest : List Oper} {o : Oper} {a : Act} {w w1 : World} {Q : Exit → Act → World → Prop} (hgd : o.guard = none) (t : TypeId) (m k x : Operand) (ho : o.op = .mapUpdate t m k x) (hrun : (Instr.mapUpdate t (a.eval m) (a.eval k) (a.eval x)).run P w = .ok () w1)
    (h : wpList P ops Q rest (a.put o.dst undef) w1) : wpList P ops Q (o :: rest) a w :=
  wpList_plain hgd fun _ hK => by
    unfold Oper.wp execOp
    simp only [ho, Sem.run_bind, hrun, Sem.run_pure, Result.andThen_ok]
    exact hK _ _ h
end
end Go.Proofs.Yteknfebehafbdaa.K
