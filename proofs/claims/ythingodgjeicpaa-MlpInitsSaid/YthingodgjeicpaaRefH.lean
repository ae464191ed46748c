/-
  regattaref02: a sum by a power of 2, to the nearest, held.
-/
import Derived.Test.YthingodgjeicpaaRefG
namespace Go.Proofs.Ythingodgjeicpaa
open Go.RowKit
set_option linter.unusedVariables false
set_option linter.unusedSimpArgs false

/-- By 2^k, to the nearest, of two the even one. -/
def rnd (v : Int) (k : Nat) : Int := if hl v k = 1 ∧ (hr v k = 1 ∨ v / 2 ^ k % 2 = 1) then v / 2 ^ k + 1 else v / 2 ^ k
theorem rnd_0 (v : Int) : rnd v 0 = v := by
  unfold rnd
  rw [if_neg (fun h => by have := h.1; simp [hl] at this)]
  simp
theorem rnd_32 (v : Int) : rnd v 32 = rne v 4294967296 := by
  rw [rne32]
  unfold rnd
  rw [hr_eq v 31, show hl v 32 = v / 2 ^ 31 % 2 from rfl, show (2:Int) ^ 31 = 2147483648 by decide, show (2:Int) ^ 32 = 4294967296 by decide]
  by_cases h : v % 2147483648 = 0
  · rw [if_pos h]; simp [h]
  · rw [if_neg h]; simp [h]
theorem rnd_33 (v : Int) : rnd v 33 = rne v 8589934592 := by
  rw [rne33]
  unfold rnd
  rw [hr_eq v 32, show hl v 33 = v / 2 ^ 32 % 2 from rfl, show (2:Int) ^ 32 = 4294967296 by decide, show (2:Int) ^ 33 = 8589934592 by decide]
  by_cases h : v % 4294967296 = 0
  · rw [if_pos h]; simp [h]
  · rw [if_neg h]; simp [h]
theorem sgn_abs (v : Int) : sgn (decide (v < 0)) (absN v) = v := by
  unfold sgn absN
  by_cases h : v < 0 <;> simp [h]
theorem sgn_rne (v d : Int) (hd : 0 < d) : sgn (decide (v < 0)) (rne (absN v) d) = rne v d := by
  unfold sgn absN
  by_cases h : v < 0
  · simp only [h, decide_true, if_true]
    rw [rne_neg v d hd, Int.neg_neg]
  · simp [h]
theorem or01 {r l : Int} (hr : r = 0 ∨ r = 1) (hl : l = 0 ∨ l = 1) : bits .or .u64 r l = if r = 1 ∨ l = 1 then 1 else 0 := by
  rcases hr with rfl | rfl <;> rcases hl with rfl | rfl <;> decide
theorem U192_pow {v : Int} (h : U192 v) (i : Nat) : U192 (v / 2 ^ i) := by
  have hp : (0:Int) < 2 ^ i := Int.pow_pos (by decide)
  have h1 := Int.ediv_nonneg h.1 (Int.le_of_lt hp)
  have h2 := Int.ediv_le_self (2 ^ i) h.1
  unfold U192 at *
  omega
theorem pow_le (v : Int) (h : 0 ≤ v) (i : Nat) : 0 ≤ v / 2 ^ i ∧ v / 2 ^ i ≤ v :=
  ⟨Int.ediv_nonneg h (Int.le_of_lt (Int.pow_pos (by decide))), Int.ediv_le_self (2 ^ i) h⟩
end Go.Proofs.Ythingodgjeicpaa
