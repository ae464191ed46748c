/-
  Layer mlp: parameters taken apart into matrices and offsets.
-/
import Derived.Test.YthingodgjeicpaaMlpJ
namespace Go.Proofs.Ythingodgjeicpaa
open Go.RowKit
set_option linter.unusedVariables false
set_option linter.unusedSimpArgs false

def lAs (s p : List Int) (k : Nat) : List (List Int) := (List.range k).map (lA s p)
def lBs (s p : List Int) (k : Nat) : List (List Int) := (List.range k).map (lB s p)
theorem lAs_succ (s p : List Int) (k : Nat) : lAs s p (k + 1) = lAs s p k ++ [lA s p k] := by simp [lAs, List.range_succ]
theorem lBs_succ (s p : List Int) (k : Nat) : lBs s p (k + 1) = lBs s p k ++ [lB s p k] := by simp [lBs, List.range_succ]
/-- The cells of k matrices, of which the lists lie at zs. -/
def MatX (s : List Int) (xs zs : List Value) (k : Nat) : Prop := xs.length = k * 3 ∧ zs.length = k ∧ ∀ j, j < k → xs[j * 3]? = some (.int .i64 (szN s (j + 1))) ∧ xs[j * 3 + 1]? = some (.int .i64 (szN s j)) ∧ xs[j * 3 + 2]? = zs[j]?
theorem MatX.snoc {s : List Int} {xs zs : List Value} {k : Nat} (h : MatX s xs zs k) (v : Value) : MatX s (xs ++ [.int .i64 (szN s (k + 1)), .int .i64 (szN s k), v]) (zs ++ [v]) (k + 1) := by
  obtain ⟨h1, h2, h3⟩ := h
  refine ⟨by simp [h1]; omega, by simp [h2], fun j hj => ?_⟩
  by_cases e : j < k
  · obtain ⟨a, b, c⟩ := h3 j e
    rw [List.getElem?_append_left (by omega), List.getElem?_append_left (by omega), List.getElem?_append_left (by omega), List.getElem?_append_left (by omega)]
    exact ⟨a, b, c⟩
  · obtain rfl : j = k := by omega
    rw [List.getElem?_append_right (by omega), List.getElem?_append_right (by omega), List.getElem?_append_right (by omega), List.getElem?_append_right (by omega), h1, h2]
    simp
theorem kept_size {w W w6 : World} {B B' : Nat} {E E' : TypeId} {vP v : Value} {nP n s1 s2 : Nat} {xs ys : List Value} (hP : w.ownsRow B E s1 vP nP xs) (hv : w.ownsRow B' E' s2 v n ys) (hne : E ≠ E') (hb : Below w.heap.size w W) (hg : W.grownBy w6 v.ownBlock) : w6.ownsRow B E s1 vP nP xs :=
  World.ownsRow.kept (ownsRow_kept hP hb) hg (own_ne hP hv hne)
end Go.Proofs.Ythingodgjeicpaa
