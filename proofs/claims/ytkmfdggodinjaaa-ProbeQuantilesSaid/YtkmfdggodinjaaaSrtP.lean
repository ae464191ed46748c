/-
  Plain: a list of ints in rising order, and where a number stands in it.
-/
import Derived.Test.YtkmfdggodinjaaaBase
namespace Go.Proofs.Ytkmfdggodinjaaa
open Go.RowKit
set_option linter.unusedVariables false
set_option linter.unusedSimpArgs false

def leI (x y : Int) : Bool := decide (x ≤ y)
def sortI (l : List Int) : List Int := l.mergeSort leI
theorem sortI_perm (l : List Int) : (sortI l).Perm l := List.mergeSort_perm l _
theorem sortI_len (l : List Int) : (sortI l).length = l.length := (sortI_perm l).length_eq
theorem sortI_pair (l : List Int) : (sortI l).Pairwise (fun a b => a ≤ b) := by
  have h := List.pairwise_mergeSort (le := leI) (fun a b c h1 h2 => by unfold leI at *; simp only [decide_eq_true_eq] at *; omega) (fun a b => by unfold leI; simp only [Bool.or_eq_true, decide_eq_true_eq]; omega) l
  exact h.imp (fun h => by unfold leI at h; simpa using h)
theorem sortI_mono {l : List Int} {i j : Nat} (hj : j < (sortI l).length) (h : i ≤ j) : (sortI l)[i]'(by omega) ≤ (sortI l)[j] := by
  rcases Nat.lt_or_ge i j with h1 | h1
  · exact List.pairwise_iff_getElem.1 (sortI_pair l) i j _ _ h1
  · obtain rfl : i = j := by omega
    exact Int.le_refl _
theorem sortI_mem {l : List Int} {x : Int} : x ∈ sortI l ↔ x ∈ l := (sortI_perm l).mem_iff

/-- How many of the first k stand below x; how many are x. -/
def belN (l : List Int) (x : Int) (k : Nat) : Nat := (l.take k).countP (fun y => decide (y < x))
def simN (l : List Int) (x : Int) (k : Nat) : Nat := (l.take k).countP (fun y => decide (y = x))
theorem belN_zero (l : List Int) (x : Int) : belN l x 0 = 0 := by simp [belN]
theorem simN_zero (l : List Int) (x : Int) : simN l x 0 = 0 := by simp [simN]
theorem belN_lt {l : List Int} {x : Int} {k : Nat} (hk : k < l.length) (h : l[k]?.getD 0 < x) : belN l x (k + 1) = belN l x k + 1 := by
  unfold belN
  rw [List.getElem?_eq_getElem hk] at h
  rw [List.take_succ_eq_append_getElem hk, List.countP_append, List.countP_singleton, if_pos (by simpa using h)]
theorem belN_ge {l : List Int} {x : Int} {k : Nat} (hk : k < l.length) (h : ¬ l[k]?.getD 0 < x) : belN l x (k + 1) = belN l x k := by
  unfold belN
  rw [List.getElem?_eq_getElem hk] at h
  rw [List.take_succ_eq_append_getElem hk, List.countP_append, List.countP_singleton, if_neg (by simpa using h)]
  rfl
theorem simN_eq {l : List Int} {x : Int} {k : Nat} (hk : k < l.length) (h : l[k]?.getD 0 = x) : simN l x (k + 1) = simN l x k + 1 := by
  unfold simN
  rw [List.getElem?_eq_getElem hk] at h
  rw [List.take_succ_eq_append_getElem hk, List.countP_append, List.countP_singleton, if_pos (by simpa using h)]
theorem simN_ne {l : List Int} {x : Int} {k : Nat} (hk : k < l.length) (h : ¬ l[k]?.getD 0 = x) : simN l x (k + 1) = simN l x k := by
  unfold simN
  rw [List.getElem?_eq_getElem hk] at h
  rw [List.take_succ_eq_append_getElem hk, List.countP_append, List.countP_singleton, if_neg (by simpa using h)]
  rfl
theorem belN_le (l : List Int) (x : Int) (k : Nat) : belN l x k ≤ k := by
  unfold belN
  have := List.countP_le_length (p := fun y => decide (y < x)) (l := l.take k)
  have := List.length_take_le k l
  omega
theorem simN_le (l : List Int) (x : Int) (k : Nat) : simN l x k ≤ k := by
  unfold simN
  have := List.countP_le_length (p := fun y => decide (y = x)) (l := l.take k)
  have := List.length_take_le k l
  omega

theorem count_split (l : List Int) (x : Int) : l.countP (fun y => decide (y ≤ x)) = l.countP (fun y => decide (y < x)) + l.countP (fun y => decide (y = x)) := by
  induction l with
  | nil => rfl
  | cons a l ih =>
    simp only [List.countP_cons, ih, decide_eq_true_eq]
    by_cases h1 : a < x
    · rw [if_pos (by omega), if_pos h1, if_neg (by omega)]; omega
    · by_cases h2 : a = x
      · rw [if_pos (by omega), if_neg h1, if_pos h2]; omega
      · rw [if_neg (by omega), if_neg h1, if_neg h2]; omega
theorem sort_below {l : List Int} {k : Nat} (hk : k < (sortI l).length) : l.countP (fun y => decide (y < (sortI l)[k])) ≤ k := by
  rw [← (sortI_perm l).countP_eq]
  have h0 : (sortI l).countP (fun y => decide (y < (sortI l)[k])) = (List.take k (sortI l) ++ List.drop k (sortI l)).countP (fun y => decide (y < (sortI l)[k])) := by rw [List.take_append_drop]
  rw [h0, List.countP_append]
  have h1 : List.countP (fun y => decide (y < (sortI l)[k])) (List.drop k (sortI l)) = 0 := by
    rw [List.countP_eq_zero]
    intro a ha
    obtain ⟨i, hi, rfl⟩ := List.mem_iff_getElem.1 ha
    rw [List.getElem_drop]
    have hi' : k + i < (sortI l).length := by rw [List.length_drop] at hi; omega
    have := sortI_mono (l := l) (i := k) (j := k + i) hi' (by omega)
    simp only [decide_eq_true_eq]
    omega
  have h2 := List.countP_le_length (p := fun y => decide (y < (sortI l)[k])) (l := List.take k (sortI l))
  have h3 := List.length_take_le k (sortI l)
  omega
theorem sort_upto {l : List Int} {k : Nat} (hk : k < (sortI l).length) : k + 1 ≤ l.countP (fun y => decide (y ≤ (sortI l)[k])) := by
  rw [← (sortI_perm l).countP_eq]
  have h0 : (sortI l).countP (fun y => decide (y ≤ (sortI l)[k])) = (List.take (k + 1) (sortI l) ++ List.drop (k + 1) (sortI l)).countP (fun y => decide (y ≤ (sortI l)[k])) := by rw [List.take_append_drop]
  rw [h0, List.countP_append]
  have h1 : List.countP (fun y => decide (y ≤ (sortI l)[k])) (List.take (k + 1) (sortI l)) = (List.take (k + 1) (sortI l)).length := by
    rw [List.countP_eq_length]
    intro a ha
    obtain ⟨j, hm, rfl⟩ := List.mem_take_iff_getElem.1 ha
    have := sortI_mono (l := l) (i := j) (j := k) hk (by omega)
    simpa using this
  rw [h1, List.length_take]
  omega

/-- A number with at most k below it, and more than k with those like it, is the one at place k. -/
theorem at_place {l : List Int} {k : Nat} {y : Int} (hk : k < (sortI l).length) (h1 : l.countP (fun z => decide (z < y)) ≤ k) (h2 : k < l.countP (fun z => decide (z < y)) + l.countP (fun z => decide (z = y))) : y = (sortI l)[k] := by
  have a := sort_below hk
  have b := sort_upto hk
  rw [← count_split] at h2
  rcases Int.lt_trichotomy y (sortI l)[k] with h | h | h
  · have := List.countP_mono_left (p := fun z => decide (z ≤ y)) (q := fun z => decide (z < (sortI l)[k])) (l := l) (fun z _ hz => by simp only [decide_eq_true_eq] at *; omega)
    omega
  · exact h
  · have := List.countP_mono_left (p := fun z => decide (z ≤ (sortI l)[k])) (q := fun z => decide (z < y)) (l := l) (fun z _ hz => by simp only [decide_eq_true_eq] at *; omega)
    omega
theorem place_at {l : List Int} {k : Nat} (hk : k < (sortI l).length) : l.countP (fun z => decide (z < (sortI l)[k])) ≤ k ∧ k < l.countP (fun z => decide (z < (sortI l)[k])) + l.countP (fun z => decide (z = (sortI l)[k])) := by
  refine ⟨sort_below hk, ?_⟩
  rw [← count_split]
  exact sort_upto hk

/-- Does the number at i stand at place k? -/
def standsB (l : List Int) (k i : Nat) : Prop := belN l (l[i]?.getD 0) l.length ≤ k ∧ k < belN l (l[i]?.getD 0) l.length + simN l (l[i]?.getD 0) l.length
theorem stands_is {l : List Int} {k i : Nat} (hk : k < l.length) (h : standsB l k i) : l[i]?.getD 0 = (sortI l)[k]?.getD 0 := by
  unfold standsB belN simN at h
  rw [List.take_of_length_le (Nat.le_refl _)] at h
  have hk' : k < (sortI l).length := by rw [sortI_len]; exact hk
  rw [List.getElem?_eq_getElem hk', Option.getD_some]
  exact at_place hk' h.1 h.2
theorem stands_ex {l : List Int} {k : Nat} (hk : k < l.length) : ∃ i, i < l.length ∧ standsB l k i := by
  have hk' : k < (sortI l).length := by rw [sortI_len]; exact hk
  have hm : (sortI l)[k] ∈ l := sortI_mem.1 (List.getElem_mem hk')
  obtain ⟨i, hi, e⟩ := List.mem_iff_getElem.1 hm
  refine ⟨i, hi, ?_⟩
  unfold standsB belN simN
  rw [List.take_of_length_le (Nat.le_refl _), List.getElem?_eq_getElem hi, Option.getD_some, e]
  exact place_at hk'

theorem sortI_getD_mono {l : List Int} {i j : Nat} (hj : j < l.length) (h : i ≤ j) : (sortI l)[i]?.getD 0 ≤ (sortI l)[j]?.getD 0 := by
  have hj' : j < (sortI l).length := by rw [sortI_len]; exact hj
  rw [List.getElem?_eq_getElem hj', List.getElem?_eq_getElem (by omega), Option.getD_some, Option.getD_some]
  exact sortI_mono hj' h
theorem sortI_least {l : List Int} {i : Nat} (hi : i < l.length) : (sortI l)[0]?.getD 0 ≤ l[i]?.getD 0 ∧ l[i]?.getD 0 ≤ (sortI l)[l.length - 1]?.getD 0 := by
  have hm : l[i] ∈ sortI l := sortI_mem.2 (List.getElem_mem hi)
  obtain ⟨j, hj, e⟩ := List.mem_iff_getElem.1 hm
  have hj' : j < l.length := by rw [sortI_len] at hj; exact hj
  have e2 : l[i]?.getD 0 = (sortI l)[j]?.getD 0 := by rw [List.getElem?_eq_getElem hi, List.getElem?_eq_getElem hj, Option.getD_some, Option.getD_some, e]
  rw [e2]
  exact ⟨sortI_getD_mono hj' (by omega), sortI_getD_mono (by omega) (by omega)⟩
theorem sortI_in {l : List Int} {k : Nat} (hk : k < l.length) : ∃ i, i < l.length ∧ l[i]?.getD 0 = (sortI l)[k]?.getD 0 := by
  obtain ⟨i, hi, h⟩ := stands_ex hk
  exact ⟨i, hi, stands_is hk h⟩
end Go.Proofs.Ytkmfdggodinjaaa
