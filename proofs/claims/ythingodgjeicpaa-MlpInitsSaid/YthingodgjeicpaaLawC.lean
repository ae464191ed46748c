/-
  Rows that came in, as they are read; gradients that are nought.
-/
import Derived.Test.YthingodgjeicpaaLawB
namespace Go.Proofs.Ythingodgjeicpaa
open Go.RowKit
set_option linter.unusedVariables false
set_option linter.unusedSimpArgs false

theorem i64_of_wf {n : Int} (h : (Lit.int .i64 n).wf = true) : I64 n := by
  have e1 : IntKind.i64.min = -9223372036854775808 := by decide
  have e2 : IntKind.i64.max = 9223372036854775807 := by decide
  simp only [Lit.wf, e1, e2, Bool.and_eq_true, decide_eq_true_eq] at h
  exact h

/-- A slice of integers that came in, as these walks take it. -/
structure InRow (w : World) (a : Option Addr) (n c : Nat) (l : List Int) : Prop where
  nc : n ≤ c
  cm : c ≤ 9223372036854775807
  nil : a = none → c = 0
  rd : n ≤ 140737488351232 → Rd w .i64 a n l
  i : A64 l

theorem inRow {w : World} {a : Option Addr} {len cap : Nat} {zs : List Int} (h : (a = none ∧ len = 0 ∧ cap = 0 ∧ zs = []) ∨
  ∃ x, a = some x ∧ len ≤ cap ∧ cap ≤ maxLen ∧ zs.length = cap ∧ (∀ i, i < zs.length → w.cell? (x.add i) = some (.int .i64 (zs.getD i 0))) ∧ ∀ n ∈ zs, (Lit.int .i64 n).wf = true) : InRow w a len cap (zs.take len) := by
  rcases h with ⟨rfl, rfl, rfl, rfl⟩ | ⟨x, rfl, hl, hm, hz, hc, hw⟩
  · exact ⟨Nat.le_refl _, by omega, fun _ => rfl, fun _ => Rd.empty _ _ _, A64_of (by simp)⟩
  · exact ⟨hl, by unfold maxLen at hm; exact hm, fun h => (by cases h), fun hn => rd_of_cells hl hz hc hn, A64_of (fun v hv => i64_of_wf (hw v (List.mem_of_mem_take hv)))⟩

/-! ### a gradient that is nought -/
def Z0 (l : List Int) : Prop := ∀ i : Nat, l[i]?.getD 0 = 0
theorem near_zero : near32 0 = 0 := by decide
theorem Z0_map_range (f : Nat → Int) (k : Nat) (h : ∀ i, f i = 0) : Z0 ((List.range k).map f) := fun i => by
  rw [List.getElem?_map]
  cases (List.range k)[i]? with
  | none => rfl
  | some v => exact h v
theorem Z0_app {a b : List Int} (ha : Z0 a) (hb : Z0 b) : Z0 (a ++ b) := fun i => by
  by_cases h : i < a.length
  · rw [List.getElem?_append_left h]; exact ha i
  · rw [List.getElem?_append_right (by omega)]; exact hb _
theorem Z0_mem {l : List Int} (h : Z0 l) {v : Int} (hv : v ∈ l) : v = 0 := by
  obtain ⟨i, hi, rfl⟩ := List.getElem_of_mem hv
  have := h i
  rw [List.getElem?_eq_getElem hi] at this
  simpa using this
theorem Z0_of_mem {l : List Int} (h : ∀ v ∈ l, v = 0) : Z0 l := fun i => by
  cases e : l[i]? with
  | none => rfl
  | some v => exact h v (List.mem_of_getElem? e)
theorem Z0_subs (y : List Int) (k : Nat) : Z0 (subs y y k) := Z0_map_range _ _ (fun i => by rw [Int.sub_self]; decide)
theorem dotB_zero {s A : List Int} (h : Z0 s) (C i : Nat) : ∀ k, dotB s A C i k = 0
  | 0 => rfl
  | k + 1 => by simp only [dotB]; rw [dotB_zero h C i k, h k, Int.zero_mul]; rfl
theorem Z0_backs {s A : List Int} (h : Z0 s) (R C : Nat) (v : List Int) (k : Nat) : Z0 (backs s A R C v k) := Z0_map_range _ _ (fun i => by
  unfold backO
  split
  · rfl
  · rw [dotB_zero h]; exact near_zero)
theorem Z0_prods {s v : List Int} (h : Z0 s) : Z0 (prods s v) := Z0_of_mem (fun z hz => by
  unfold prods at hz
  obtain ⟨a, ha, hz⟩ := List.mem_flatMap.1 hz
  obtain ⟨b, _, rfl⟩ := List.mem_map.1 hz
  rw [Z0_mem h ha, Int.zero_mul]; exact near_zero)
theorem Z0_slv (s p x : List Int) (m : Nat) : ∀ k, Z0 (slv s p x (val s p x m) m k)
  | 0 => Z0_subs _ _
  | k + 1 => Z0_backs (Z0_slv s p x m k) _ _ _ _
theorem Z0_gradS (s p x : List Int) (m : Nat) : Z0 (gradS s p x (val s p x m) m) := Z0_of_mem (fun z hz => by
  unfold gradS at hz
  obtain ⟨j, _, hz⟩ := List.mem_flatMap.1 hz
  exact Z0_mem (Z0_app (Z0_prods (Z0_slv s p x m _)) (Z0_slv s p x m _)) hz)
theorem sqS_zero {d : List Int} (h : Z0 d) : ∀ k, sqS d k = 0
  | 0 => rfl
  | k + 1 => by simp only [sqS]; rw [sqS_zero h k, h k]; rfl
theorem sqFar_self (y : List Int) (k : Nat) : sqFar y y k = 0 := by
  unfold sqFar
  rw [sqS_zero (Z0_subs y k)]
  decide

/-- As many numbers as parameters. -/
theorem parts_len {s p x t : List Int} {m : Nat} (hx : x.length = szN s 0) : ∀ k, k ≤ m → ((List.range k).flatMap (partS s p x t m)).length = fst s k
  | 0, _ => rfl
  | k + 1, h => by
    rw [List.range_succ, List.flatMap_append, List.length_append, parts_len hx k (by omega), fst_succ]
    simp only [List.flatMap_cons, List.flatMap_nil, List.append_nil]
    unfold partS
    rw [List.length_append, prods_len, slv_len _ _ _ _ _ _ (by omega), val_len hx, show m - (m - 1 - k) = k + 1 by omega]
theorem gradS_len {s p x t : List Int} {m : Nat} (hn : NetOk s p x m) : (gradS s p x t m).length = p.length := by
  unfold gradS
  rw [parts_len hn.hx m (Nat.le_refl _), hn.hp]
  unfold cntN
  rw [hn.hm, Nat.add_sub_cancel]
end Go.Proofs.Ythingodgjeicpaa
