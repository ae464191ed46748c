/-
  Layer mlp: the slope ahead of a layer; nothing is counted.
-/
import Derived.Test.YtkmfdggodinjaaaMlpC
namespace Go.Proofs.Ytkmfdggodinjaaa
open Go.RowKit
set_option linter.unusedVariables false
set_option linter.unusedSimpArgs false

/-- The sum of the first k products of slopes and a layer's column i. -/
def dotB (s A : List Int) (C i : Nat) : Nat → Int
  | 0 => 0
  | k + 1 => dotB s A C i k + s[k]?.getD 0 * A[k * C + i]?.getD 0
def backO (s A : List Int) (R C : Nat) (v : List Int) (i : Nat) : Int := if v[i]?.getD 0 ≤ 0 then 0 else near32 (dotB s A C i R)
def backs (s A : List Int) (R C : Nat) (v : List Int) (k : Nat) : List Int := (List.range k).map (backO s A R C v)
theorem backs_succ (s A : List Int) (R C : Nat) (v : List Int) (k : Nat) : backs s A R C v (k + 1) = backs s A R C v k ++ [backO s A R C v k] := by simp [backs, List.range_succ]
theorem dotB_bd {s A : List Int} (hs : A64 s) (hA : A64 A) (C i : Nat) : ∀ k, -(k * 85070591730234615865843651857942052864) ≤ dotB s A C i k ∧ dotB s A C i k ≤ k * 85070591730234615865843651857942052864
  | 0 => by simp [dotB]
  | k + 1 => by
    have h1 := dotB_bd hs hA C i k
    have h2 := mul_bd (hs k) (hA (k * C + i))
    simp only [dotB]
    generalize s[k]?.getD 0 * A[k * C + i]?.getD 0 = p at *
    omega
theorem dotB_I192 {s A : List Int} (hs : A64 s) (hA : A64 A) {R : Nat} (hR : R ≤ 100000) (C i : Nat) : I192 (dotB s A C i R) := by
  have h1 := dotB_bd hs hA C i R
  unfold I192
  generalize dotB s A C i R = d at *
  omega
theorem x_zero : x2s 0 = 0 ∧ x1 0 = 0 ∧ x0 0 = 0 := by
  refine ⟨?_, ?_, ?_⟩
  · unfold x2s wrap64; omega
  · unfold x1; omega
  · unfold x0; omega
end Go.Proofs.Ytkmfdggodinjaaa
