/-
  regattaref02: digits to the base 2^32: less, minus, half, rounding. Plain laws: no program is named.
-/
import Derived.Test.YtkmfdggodinjaaaRefB
import Derived.Test.YtkmfdggodinjaaaLongN
namespace Go.Proofs.Ytkmfdggodinjaaa
open Go.RowKit
set_option linter.unusedVariables false
set_option linter.unusedSimpArgs false

/-- It fits six digits. -/
def U192 (v : Int) : Prop := 0 ≤ v ∧ v < 6277101735386680763835789423207666416102355444464034512896
theorem qd_top {v : Int} (h : U192 v) : qd v 6 = 0 := by
  unfold U192 at h
  simp only [qd]
  omega
theorem qd_nn {v : Int} (h : U192 v) : ∀ i, 0 ≤ qd v i
  | 0 => h.1
  | i + 1 => by have := qd_nn h i; simp only [qd]; omega
theorem qd_st (v : Int) (i : Nat) : qd v i = qd v (i + 1) * 4294967296 + dg v i := by
  simp only [qd, dg]; omega

/-- Less. -/
def ltN (a b : Int) (i : Nat) : Bool := decide (qd a i < qd b i)
theorem lt_dif {a b : Int} {i : Nat} (he : qd a (i + 1) = qd b (i + 1)) (_hn : dg a i ≠ dg b i) : decide (dg a i < dg b i) = ltN a b i := by
  have h1 := qd_st a i
  have h2 := qd_st b i
  unfold ltN
  rw [decide_eq_decide]
  omega
theorem lt_eq {a b : Int} {i : Nat} (he : qd a (i + 1) = qd b (i + 1)) (hn : dg a i = dg b i) : qd a i = qd b i := by
  have h1 := qd_st a i
  have h2 := qd_st b i
  omega
theorem lt_down {a b : Int} : ∀ i, qd a i ≠ qd b i → ltN a b i = decide (a < b)
  | 0, _ => rfl
  | i + 1, h => by
    rw [← lt_down i (by intro h2; apply h; simp only [qd]; rw [h2])]
    unfold ltN
    rw [decide_eq_decide]
    simp only [qd] at *
    omega

/-- Minus: the borrows. -/
def bo (a b : Int) : Nat → Int
  | 0 => 0
  | i + 1 => 1 - (dg a i + 4294967296 - dg b i - bo a b i) / 4294967296
theorem bo_bd (a b : Int) : ∀ i, 0 ≤ bo a b i ∧ bo a b i ≤ 1
  | 0 => by simp [bo]
  | i + 1 => by
    have h := bo_bd a b i
    have h1 := dg_bd a i
    have h2 := dg_bd b i
    simp only [bo]
    omega
theorem q_sub (a b : Int) : ∀ i, qd (a - b) i = qd a i - qd b i - bo a b i
  | 0 => by simp [qd, bo]
  | i + 1 => by
    have h := q_sub a b i
    simp only [qd, bo, dg]
    rw [h]
    generalize qd a i = x
    generalize qd b i = y
    have h3 := bo_bd a b i
    generalize bo a b i = c at *
    omega
theorem d_sub (a b : Int) (i : Nat) : (dg a i + 4294967296 - dg b i - bo a b i) % 4294967296 = dg (a - b) i := by
  unfold dg
  rw [q_sub]
  omega

/-- Half: what is left over, from the top. -/
def ov (v : Int) (i : Nat) : Int := qd v i % 2
theorem half_q (v : Int) : ∀ i, qd (v / 2) i = qd v i / 2
  | 0 => rfl
  | i + 1 => by
    simp only [qd]
    rw [half_q v i]
    generalize qd v i = x
    omega
theorem half_d (v : Int) (i : Nat) : (ov v (i + 1) * 4294967296 + dg v i) / 2 = dg (v / 2) i := by
  unfold ov dg
  rw [half_q]
  simp only [qd]
  generalize qd v i = x
  omega
theorem half_c (v : Int) (i : Nat) : (ov v (i + 1) * 4294967296 + dg v i) % 2 = ov v i := by
  unfold ov dg
  simp only [qd]
  generalize qd v i = x
  omega
theorem ov_bd (v : Int) (i : Nat) : 0 ≤ ov v i ∧ ov v i ≤ 1 := by unfold ov; omega
theorem ov_top {v : Int} (h : U192 v) : ov v 6 = 0 := by unfold ov; rw [qd_top h]; rfl

/-- Clamp. -/
theorem dg_four {v : Int} (h : U192 v) : (dg v 2 = 0 ∧ dg v 3 = 0 ∧ dg v 4 = 0 ∧ dg v 5 = 0) ↔ v < 18446744073709551616 := by
  have ht := qd_top h
  have h5 := qd_st v 5
  have h4 := qd_st v 4
  have h3 := qd_st v 3
  have h2 := qd_st v 2
  have h1 := qd_st v 1
  have h0 := qd_st v 0
  have d0 := dg_bd v 0
  have d1 := dg_bd v 1
  have n2 := qd_nn h 2
  have d2 := dg_bd v 2
  have d3 := dg_bd v 3
  have d4 := dg_bd v 4
  have d5 := dg_bd v 5
  simp only [Nat.reduceAdd] at *
  have e0 : qd v 0 = v := rfl
  constructor <;> intro hh <;> omega
theorem dg_low {v : Int} (h : U192 v) (hv : v < 18446744073709551616) : dg v 1 * 4294967296 + dg v 0 = v := by
  unfold U192 at h
  simp only [dg, qd]
  omega

theorem clampI_lo {x : Int} (h : x < -9223372036854775808) : clampI x = -9223372036854775808 ∧ over x = true := by
  unfold clampI over; rw [if_pos h]; simp; omega
theorem clampI_hi {x : Int} (h : x > 9223372036854775807) : clampI x = 9223372036854775807 ∧ over x = true := by
  unfold clampI over; rw [if_neg (by omega), if_pos h]; simp; omega
theorem clampI_in {x : Int} (h : I64 x) : clampI x = x ∧ over x = false := by
  unfold I64 at h; unfold clampI over; rw [if_neg (by omega), if_neg (by omega)]; simp; omega

/-- Rounding, halving by halving. -/
theorem pow_h (i : Nat) : (2 : Int) ^ (i + 1) = 2 * 2 ^ i := by rw [Int.pow_succ, Int.mul_comm]
theorem half_p (v : Int) (i : Nat) : v / 2 ^ i / 2 = v / 2 ^ (i + 1) := by
  rw [Int.pow_succ, Int.ediv_ediv_of_nonneg (Int.pow_nonneg (by decide))]
/-- The place that fell last, and whether any fell before. -/
def hl (v : Int) : Nat → Int
  | 0 => 0
  | i + 1 => v / 2 ^ i % 2
def hr (v : Int) : Nat → Int
  | 0 => 0
  | i + 1 => if hr v i = 1 ∨ hl v i = 1 then 1 else 0
theorem hl_bd (v : Int) (i : Nat) : hl v i = 0 ∨ hl v i = 1 := by
  cases i with
  | zero => exact .inl rfl
  | succ i => simp only [hl]; omega
theorem hr_bd (v : Int) (i : Nat) : hr v i = 0 ∨ hr v i = 1 := by cases i <;> simp only [hr] <;> (try split) <;> simp
theorem mod_pow (v : Int) (i : Nat) : v % 2 ^ (i + 1) = v % 2 ^ i + 2 ^ i * (v / 2 ^ i % 2) := by
  have h1 := Int.mul_ediv_add_emod v (2 ^ (i + 1))
  have h2 := Int.mul_ediv_add_emod v (2 ^ i)
  have h3 := half_p v i
  have h4 : v / 2 ^ i = 2 * (v / 2 ^ (i + 1)) + v / 2 ^ i % 2 := by omega
  have h6 : (2:Int) ^ i * (v / 2 ^ i) = 2 ^ (i + 1) * (v / 2 ^ (i + 1)) + 2 ^ i * (v / 2 ^ i % 2) := by
    conv => lhs; rw [h4]
    rw [Int.mul_add, Int.pow_succ, Int.mul_assoc]
  omega
theorem hr_eq (v : Int) : ∀ i, hr v (i + 1) = if v % 2 ^ i = 0 then 0 else 1
  | 0 => by simp [hr, hl, Int.emod_one]
  | i + 1 => by
    have h := hr_eq v i
    rw [show hr v (i + 1 + 1) = if hr v (i + 1) = 1 ∨ hl v (i + 1) = 1 then 1 else 0 from rfl, h, mod_pow]
    have hp : (0:Int) < 2 ^ i := Int.pow_pos (by decide)
    have hm := Int.emod_nonneg v (b := 2 ^ i) (by omega)
    rcases (show v / 2 ^ i % 2 = 0 ∨ v / 2 ^ i % 2 = 1 by omega) with e | e
    · rw [show hl v (i + 1) = v / 2 ^ i % 2 from rfl, e, Int.mul_zero, Int.add_zero]
      split <;> simp
    · rw [show hl v (i + 1) = v / 2 ^ i % 2 from rfl, e, Int.mul_one, if_pos (.inr rfl), if_neg (by omega)]
theorem dg_even (v : Int) : dg v 0 % 2 = v % 2 := by simp only [dg, qd]; omega
end Go.Proofs.Ytkmfdggodinjaaa
