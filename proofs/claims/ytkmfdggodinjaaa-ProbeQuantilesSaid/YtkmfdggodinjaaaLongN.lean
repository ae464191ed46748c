/-
  Long numbers: sums, shifts and roundings, word by word: plain laws. No program is named.
-/
import Derived.Test.YtkmfdggodinjaaaLongA
import Derived.Test.YtkmfdggodinjaaaFixA
namespace Go.Proofs.Ytkmfdggodinjaaa
open Go.RowKit
set_option linter.unusedVariables false
set_option linter.unusedSimpArgs false

/-- It fits 192 bits. -/
def I192 (x : Int) : Prop := -3138550867693340381917894711603833208051177722232017256448 ≤ x ∧ x < 3138550867693340381917894711603833208051177722232017256448

theorem hi2 (v : Int) : v / 340282366920938463463374607431768211456 = v / 18446744073709551616 / 18446744073709551616 := by omega

def c1 (a b : Int) : Int := (x0 a + x0 b + 0) / 18446744073709551616
def c2 (a b : Int) : Int := (x1 a + x1 b + c1 a b) / 18446744073709551616
theorem c1_bd (a b : Int) : 0 ≤ c1 a b ∧ c1 a b ≤ 1 := by unfold c1 x0; omega
theorem c2_bd (a b : Int) : 0 ≤ c2 a b ∧ c2 a b ≤ 1 := by have := c1_bd a b; unfold c2 x1; omega
theorem plus_0 (a b : Int) : (x0 a + x0 b + 0) % 18446744073709551616 = x0 (a + b) := by unfold x0; omega
theorem plus_1 (a b : Int) : (x1 a + x1 b + c1 a b) % 18446744073709551616 = x1 (a + b) := by unfold c1 x0 x1; omega
theorem plus_2 (a b : Int) : (x2 a + x2 b + c2 a b) % 18446744073709551616 = x2 (a + b) := by
  unfold c2 c1 x0 x1 x2
  rw [hi2 a, hi2 b, hi2 (a + b)]
  generalize ha : a / 18446744073709551616 = p
  generalize hb : b / 18446744073709551616 = q
  have e : (a + b) / 18446744073709551616 = p + q + (a % 18446744073709551616 + b % 18446744073709551616 + 0) / 18446744073709551616 := by omega
  rw [e]
  generalize (a % 18446744073709551616 + b % 18446744073709551616 + 0) / 18446744073709551616 = c
  omega

/-- What stands above the top word. -/
def fillI (v : Int) : Int := IntKind.u64.wrap (x2s v / 9223372036854775808)
theorem fillI_bd (v : Int) : 0 ≤ fillI v ∧ fillI v ≤ 18446744073709551615 := by unfold fillI; rw [IntKind.wrap_u64]; omega
theorem x2s_eq {v : Int} (h : I192 v) : x2s v = v / 340282366920938463463374607431768211456 := by unfold I192 at h; unfold x2s wrap64; omega
theorem fillI_eq {v : Int} (h : I192 v) : fillI v = if v < 0 then 18446744073709551615 else 0 := by
  unfold fillI; rw [x2s_eq h, IntKind.wrap_u64]; unfold I192 at h; split <;> omega

/-- Down by 2^32 and 2^33. -/
theorem down32_0 (v : Int) : bits .or .u64 (x0 v / 4294967296) (IntKind.u64.wrap (x1 v * 4294967296)) = x0 (v / 4294967296) := by
  have := x0_bd v
  rw [IntKind.wrap_u64, (or_add_u64 32 (by omega) (by omega) (by omega) (by omega) (by omega) (by omega)).2]
  unfold x0 x1; omega
theorem down32_1 (v : Int) : bits .or .u64 (x1 v / 4294967296) (IntKind.u64.wrap (x2 v * 4294967296)) = x1 (v / 4294967296) := by
  have := x1_bd v
  rw [IntKind.wrap_u64, (or_add_u64 32 (by omega) (by omega) (by omega) (by omega) (by omega) (by omega)).2]
  unfold x1 x2; omega
theorem down32_2 {v : Int} (h : I192 v) : bits .or .u64 (x2 v / 4294967296) (IntKind.u64.wrap (fillI v * 4294967296)) = x2 (v / 4294967296) := by
  have := x2_bd v
  rw [IntKind.wrap_u64, (or_add_u64 32 (by omega) (by omega) (by omega) (by omega) (by omega) (by omega)).2, fillI_eq h]
  unfold I192 at h; unfold x2; split <;> omega
theorem down33_0 (v : Int) : bits .or .u64 (x0 v / 8589934592) (IntKind.u64.wrap (x1 v * 2147483648)) = x0 (v / 8589934592) := by
  have := x0_bd v
  rw [IntKind.wrap_u64, (or_add_u64 31 (by omega) (by omega) (by omega) (by omega) (by omega) (by omega)).2]
  unfold x0 x1; omega
theorem down33_1 (v : Int) : bits .or .u64 (x1 v / 8589934592) (IntKind.u64.wrap (x2 v * 2147483648)) = x1 (v / 8589934592) := by
  have := x1_bd v
  rw [IntKind.wrap_u64, (or_add_u64 31 (by omega) (by omega) (by omega) (by omega) (by omega) (by omega)).2]
  unfold x1 x2; omega
theorem down33_2 {v : Int} (h : I192 v) : bits .or .u64 (x2 v / 8589934592) (IntKind.u64.wrap (fillI v * 2147483648)) = x2 (v / 8589934592) := by
  have := x2_bd v
  rw [IntKind.wrap_u64, (or_add_u64 31 (by omega) (by omega) (by omega) (by omega) (by omega) (by omega)).2, fillI_eq h]
  unfold I192 at h; unfold x2; split <;> omega

/-- The place below the cut, and what is below it. -/
theorem bit31 (v : Int) : bits .and .u64 (x0 v / 2147483648) 1 = v / 2147483648 % 2 := by
  have := x0_bd v
  rw [and_one_u64 (by omega) (by omega)]; unfold x0; omega
theorem bit32 (v : Int) : bits .and .u64 (x0 v / 4294967296) 1 = v / 4294967296 % 2 := by
  have := x0_bd v
  rw [and_one_u64 (by omega) (by omega)]; unfold x0; omega
theorem bit0 (v : Int) : bits .and .u64 (x0 v) 1 = v % 2 := by
  have := x0_bd v
  rw [and_one_u64 (by omega) (by omega)]; unfold x0; omega
theorem bare31 (v : Int) : IntKind.u64.wrap (x0 v * 8589934592) = v % 2147483648 * 8589934592 := by rw [IntKind.wrap_u64]; unfold x0; omega
theorem bare32 (v : Int) : IntKind.u64.wrap (x0 v * 4294967296) = v % 4294967296 * 4294967296 := by rw [IntKind.wrap_u64]; unfold x0; omega

theorem rne32 (v : Int) : rne v 4294967296 = if v / 2147483648 % 2 = 1 ∧ (v % 2147483648 ≠ 0 ∨ v / 4294967296 % 2 = 1) then v / 4294967296 + 1 else v / 4294967296 := by
  unfold rne
  by_cases h : v / 2147483648 % 2 = 1
  · by_cases h2 : v % 2147483648 = 0
    · by_cases h3 : v / 4294967296 % 2 = 1
      · rw [if_pos (by omega), if_pos ⟨h, .inr h3⟩]
      · rw [if_neg (by omega), if_neg (by omega)]
    · rw [if_pos (by omega), if_pos ⟨h, .inl h2⟩]
  · rw [if_neg (by omega), if_neg (by omega)]
theorem rne33 (v : Int) : rne v 8589934592 = if v / 4294967296 % 2 = 1 ∧ (v % 4294967296 ≠ 0 ∨ v / 8589934592 % 2 = 1) then v / 8589934592 + 1 else v / 8589934592 := by
  unfold rne
  by_cases h : v / 4294967296 % 2 = 1
  · by_cases h2 : v % 4294967296 = 0
    · by_cases h3 : v / 8589934592 % 2 = 1
      · rw [if_pos (by omega), if_pos ⟨h, .inr h3⟩]
      · rw [if_neg (by omega), if_neg (by omega)]
    · rw [if_pos (by omega), if_pos ⟨h, .inl h2⟩]
  · rw [if_neg (by omega), if_neg (by omega)]

/-- Clamping. -/
def f0 (v : Int) : Int := IntKind.u64.wrap (wrap64 (x0 v) / 9223372036854775808)
theorem f0_eq (v : Int) : f0 v = if x0 v < 9223372036854775808 then 0 else 18446744073709551615 := by
  have h := x0_bd v
  unfold f0; rw [IntKind.wrap_u64]; generalize x0 v = r at *; unfold wrap64; split <;> omega
theorem clampL_in {v : Int} (h : I192 v) (h2 : I64 v) : x1 v = f0 v ∧ x2 v = f0 v ∧ wrap64 (x0 v) = clampI v ∧ over v = false := by
  unfold I64 at h2
  have e1 : v / 18446744073709551616 = if v < 0 then -1 else 0 := by split <;> omega
  refine ⟨?_, ?_, ?_, ?_⟩
  · rw [f0_eq]; unfold x0 x1; rw [e1]; split <;> split <;> omega
  · rw [f0_eq]; unfold x0 x2; rw [hi2, e1]; split <;> split <;> omega
  · unfold x0 wrap64 clampI; rw [if_neg (by omega), if_neg (by omega)]; omega
  · unfold over; simp; omega
theorem clampL_out {v : Int} (h : I192 v) (h2 : ¬ I64 v) : ¬ (x1 v = f0 v ∧ x2 v = f0 v) := by
  rintro ⟨h3, h4⟩
  apply h2
  rw [f0_eq] at h3 h4
  unfold x0 x1 at h3; unfold x0 x2 at h4; unfold I192 at h; unfold I64
  rw [hi2] at h4
  split at h3
  · rw [if_pos (by assumption)] at h4; omega
  · rw [if_neg (by assumption)] at h4; omega
theorem clampL_low {v : Int} (h : I192 v) (h2 : ¬ I64 v) (h3 : x2s v < 0) : clampI v = -9223372036854775808 ∧ over v = true := by
  rw [x2s_eq h] at h3
  unfold I64 at h2
  refine ⟨?_, ?_⟩
  · unfold clampI; rw [if_pos (by omega)]
  · unfold over; simp; omega
theorem clampL_high {v : Int} (h : I192 v) (h2 : ¬ I64 v) (h3 : ¬ x2s v < 0) : clampI v = 9223372036854775807 ∧ over v = true := by
  rw [x2s_eq h] at h3
  unfold I64 at h2
  refine ⟨?_, ?_⟩
  · unfold clampI; rw [if_neg (by omega), if_pos (by omega)]
  · unfold over; simp; omega
theorem I192_rne32 {v : Int} (h : I192 v) : I192 (rne v 4294967296) ∧ I192 (v / 4294967296) := by
  unfold I192 at *; unfold rne; split <;> omega
theorem I192_rne33 {v : Int} (h : I192 v) : I192 (rne v 8589934592) ∧ I192 (v / 8589934592) := by
  unfold I192 at *; unfold rne; split <;> omega
end Go.Proofs.Ytkmfdggodinjaaa
