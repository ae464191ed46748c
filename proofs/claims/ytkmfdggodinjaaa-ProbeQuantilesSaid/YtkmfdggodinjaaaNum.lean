/-
  Whole numbers of 128 and 192 bits, numbers rounded and clamped: plain laws. No program is named.
-/
import Derived.Test.YtkmfdggodinjaaaBase
namespace Go.Proofs.Ytkmfdggodinjaaa
open Go.RowKit
set_option linter.unusedVariables false
set_option linter.unusedSimpArgs false

/-! ### words -/
/-- The upper word of a number of 128 bits, and the lower one. -/
def whi (v : Int) : Int := wrap64 (v / 18446744073709551616)
def wlo (v : Int) : Int := v % 18446744073709551616

/-- A wide number in memory's form. -/
abbrev W (v : Int) : Value := .agg #[.int .i64 (whi v), .int .u64 (wlo v)]
/-- A long one. -/
abbrev LV (v : Int) : Value := .agg #[.int .i64 (wrap64 (v / 340282366920938463463374607431768211456)), .int .u64 (v / 18446744073709551616 % 18446744073709551616), .int .u64 (v % 18446744073709551616)]

/-- It fits 64 bits. -/
def I64 (x : Int) : Prop := -9223372036854775808 ≤ x ∧ x ≤ 9223372036854775807
def I128 (x : Int) : Prop := -170141183460469231731687303715884105728 ≤ x ∧ x < 170141183460469231731687303715884105728

theorem wrap64_I64 (x : Int) : I64 (wrap64 x) := by unfold I64 wrap64; omega
theorem wrap64_eq {x : Int} (h : I64 x) : wrap64 x = x := by unfold I64 at h; unfold wrap64; omega
theorem wlo_bd (v : Int) : 0 ≤ wlo v ∧ wlo v ≤ 18446744073709551615 := by unfold wlo; omega
theorem whi_bd (v : Int) : -9223372036854775808 ≤ whi v ∧ whi v ≤ 9223372036854775807 := by unfold whi wrap64; omega
theorem whi_eq {v : Int} (h : I128 v) : whi v = v / 18446744073709551616 := by unfold I128 at h; unfold whi wrap64; omega
theorem whi_wlo {v : Int} (h : I128 v) : whi v * 18446744073709551616 + wlo v = v := by rw [whi_eq h]; unfold wlo; omega

/-! ### to the nearest, of two the even one -/
/-- v by d (above 0), to the nearest whole number, of two the even one. -/
def rne (v d : Int) : Int := if 2 * (v % d) > d ∨ 2 * (v % d) = d ∧ (v / d) % 2 = 1 then v / d + 1 else v / d

def clampI (x : Int) : Int := if x < -9223372036854775808 then -9223372036854775808 else if x > 9223372036854775807 then 9223372036854775807 else x
def over (x : Int) : Bool := decide (x < -9223372036854775808 ∨ x > 9223372036854775807)

theorem clampI_I64 (x : Int) : I64 (clampI x) := by unfold I64 clampI; split <;> (try split) <;> omega

theorem rne_neg (v d : Int) (hd : 0 < d) : rne (-v) d = - rne v d := by
  have h1 := Int.emod_add_mul_ediv v d
  have h2 := Int.emod_nonneg v (by omega : d ≠ 0)
  have h3 := Int.emod_lt_of_pos v hd
  by_cases h0 : v % d = 0
  · have e1 : (-v) % d = 0 := Int.emod_eq_zero_of_dvd (Int.dvd_neg.2 (Int.dvd_of_emod_eq_zero h0))
    have e2 : (-v) / d = - (v / d) := by
      have : d ∣ v := Int.dvd_of_emod_eq_zero h0
      exact Int.neg_ediv_of_dvd this
    unfold rne
    rw [e1, e2, h0]
    rw [if_neg (by omega), if_neg (by omega)]
  · have e1 : (-v) / d = - (v / d) - 1 := by
      have : -v = (d - v % d) + d * (-(v / d) - 1) := by rw [Int.mul_sub, Int.mul_neg]; omega
      rw [this, Int.add_mul_ediv_left _ _ (by omega), Int.ediv_eq_zero_of_lt (by omega) (by omega)]; omega
    have e2 : (-v) % d = d - v % d := by
      have := Int.emod_add_mul_ediv (-v) d
      rw [e1, Int.mul_sub, Int.mul_neg] at this
      omega
    unfold rne
    rw [e1, e2]
    by_cases c1 : 2 * (v % d) > d
    · rw [if_neg (by omega), if_pos (by omega)]; omega
    · by_cases c2 : 2 * (v % d) = d
      · by_cases c3 : (v / d) % 2 = 1
        · rw [if_neg (by omega), if_pos (by omega)]; omega
        · rw [if_pos (by omega), if_neg (by omega)]; omega
      · rw [if_pos (by omega), if_neg (by omega)]; omega
end Go.Proofs.Ytkmfdggodinjaaa
