/-
  Quotients: plain laws, for vec.Mean and vec.Means (wide.Quo). No program is named.
-/
import Derived.Test.YtkmfdggodinjaaaNum
namespace Go.Proofs.Ytkmfdggodinjaaa
open Go.RowKit
set_option linter.unusedVariables false
set_option linter.unusedSimpArgs false

/-- A quotient of two words by one: the upper word by it, what is left with the lower word. -/
theorem quo_words (h l d : Int) (hd : 0 < d) : (h * 18446744073709551616 + l) / d = h / d * 18446744073709551616 + (h % d * 18446744073709551616 + l) / d ∧ (h * 18446744073709551616 + l) % d = (h % d * 18446744073709551616 + l) % d := by
  have e := Int.mul_ediv_add_emod h d
  have e2 : h * 18446744073709551616 + l = (h % d * 18446744073709551616 + l) + (h / d * 18446744073709551616) * d := by
    conv => lhs; rw [← e]
    rw [Int.add_mul, Int.mul_comm d, Int.mul_right_comm (h / d) d]
    omega
  refine ⟨?_, ?_⟩
  · rw [e2, Int.add_mul_ediv_right _ _ (by omega), Int.add_comm]
  · rw [e2, Int.add_mul_emod_self_right]
theorem quo_low {h l d : Int} (hd : 0 < d) (hl : 0 ≤ l) (hl2 : l < 18446744073709551616) : 0 ≤ (h % d * 18446744073709551616 + l) / d ∧ (h % d * 18446744073709551616 + l) / d < 18446744073709551616 := by
  have h1 := Int.emod_nonneg h (b := d) (by omega)
  have h2 := Int.emod_lt_of_pos h hd
  refine ⟨Int.ediv_nonneg (by omega) (by omega), ?_⟩
  rw [Int.ediv_lt_iff_lt_mul hd]
  have h3 : (h % d + 1) * 18446744073709551616 ≤ d * 18446744073709551616 := by omega
  omega
/-- To the nearest, of two the even one: as the program looks at what is left. -/
theorem quo_rne {m d : Int} (hd : 0 < d) : rne m d = if m % d > d - m % d ∨ m % d = d - m % d ∧ m / d % 2 = 1 then m / d + 1 else m / d := by
  unfold rne
  have e1 : (2 * (m % d) > d) ↔ (m % d > d - m % d) := by omega
  have e2 : (2 * (m % d) = d) ↔ (m % d = d - m % d) := by omega
  simp only [e1, e2]
theorem quo_even {t b : Int} : (t * 18446744073709551616 + b) % 2 = b % 2 := by omega
/-- A mean doesn't hang on the order. -/
theorem sum_turned (l : List Int) (k : Nat) : (l.drop k ++ l.take k).sum = l.sum := by
  rw [List.sum_append, Int.add_comm, ← List.sum_append, List.take_append_drop]
end Go.Proofs.Ytkmfdggodinjaaa
