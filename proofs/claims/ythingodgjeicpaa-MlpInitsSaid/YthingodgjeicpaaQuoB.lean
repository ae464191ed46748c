/-
  Long division, bit by bit: plain laws. No program is named.
-/
import Derived.Test.YthingodgjeicpaaRefN
import Derived.Test.YthingodgjeicpaaQuoN
namespace Go.Proofs.Ythingodgjeicpaa
open Go.RowKit
set_option linter.unusedVariables false
set_option linter.unusedSimpArgs false

theorem ediv_swap (a : Int) {b c : Int} (hb : 0 < b) (hc : 0 < c) : a / b / c = a / c / b := by
  rw [Int.ediv_ediv_of_nonneg (by omega), Int.ediv_ediv_of_nonneg (by omega), Int.mul_comm]
theorem qd_div (v : Int) {d : Int} (hd : 0 < d) : ∀ i, qd (v / d) i = qd v i / d
  | 0 => rfl
  | i + 1 => by
    simp only [qd]
    rw [qd_div v hd i, ediv_swap _ hd (by omega)]
theorem two_pow_pos (e : Nat) : (0 : Int) < 2 ^ e := Int.pow_pos (by omega)
theorem bit_low (x : Int) {e : Nat} (h : e < 32) : x % 4294967296 / 2 ^ e % 2 = x / 2 ^ e % 2 := by
  obtain ⟨f, hf⟩ : ∃ f, 31 = e + f := ⟨31 - e, by omega⟩
  have h1 : (4294967296 : Int) = 2 ^ e * (2 * 2 ^ f) := by
    have : (4294967296 : Int) = 2 ^ (31 + 1) := by decide
    rw [this, Int.pow_succ, hf, Int.pow_add]
    rw [Int.mul_assoc, Int.mul_comm (2 ^ f) 2]
  have h2 := Int.mul_ediv_add_emod x 4294967296
  have h3 : x = x % 4294967296 + 2 ^ e * (2 * (2 ^ f * (x / 4294967296))) := by
    have h4 : (4294967296 : Int) * (x / 4294967296) = 2 ^ e * (2 * (2 ^ f * (x / 4294967296))) := by
      generalize x / 4294967296 = t
      rw [h1]
      simp only [Int.mul_assoc]
    rw [← h4]
    omega
  conv => rhs; rw [h3, Int.add_mul_ediv_left _ _ (by have := two_pow_pos e; omega)]
  generalize 2 ^ f * (x / 4294967296) = t
  omega
/-- One bit more. -/
theorem qstep (N : Int) {d : Int} (hd : 0 < d) :
    (d ≤ 2 * (N / 2 % d) + N % 2 → N % d = 2 * (N / 2 % d) + N % 2 - d ∧ N / d = 2 * (N / 2 / d) + 1) ∧
    (2 * (N / 2 % d) + N % 2 < d → N % d = 2 * (N / 2 % d) + N % 2 ∧ N / d = 2 * (N / 2 / d)) := by
  have h1 := Int.mul_ediv_add_emod (N / 2) d
  have h2 := Int.emod_nonneg (N / 2) (b := d) (by omega)
  have h3 := Int.emod_lt_of_pos (N / 2) hd
  have e : N = (2 * (N / 2 % d) + N % 2) + d * (2 * (N / 2 / d)) := by
    have : d * (2 * (N / 2 / d)) = 2 * (d * (N / 2 / d)) := by rw [Int.mul_left_comm]
    omega
  generalize N / 2 % d = r at *
  generalize N / 2 / d = q at *
  have hb : 0 ≤ N % 2 ∧ N % 2 < 2 := by omega
  generalize N % 2 = b at *
  constructor
  · intro h
    have e2 : N = (2 * r + b - d) + d * (2 * q + 1) := by rw [Int.mul_add, Int.mul_one]; omega
    constructor
    · rw [e2, Int.add_mul_emod_self_left, Int.emod_eq_of_lt (by omega) (by omega)]
    · rw [e2, Int.add_mul_ediv_left _ _ (by omega), Int.ediv_eq_zero_of_lt (by omega) (by omega), Int.zero_add]
  · intro h
    constructor
    · conv => lhs; rw [e, Int.add_mul_emod_self_left, Int.emod_eq_of_lt (by omega) (by omega)]
    · conv => lhs; rw [e, Int.add_mul_ediv_left _ _ (by omega), Int.ediv_eq_zero_of_lt (by omega) (by omega), Int.zero_add]

/-- What is left, and the digit in work, with e bits to go. -/
def rsN (M d : Int) (i e : Nat) : Int := qd M i / 2 ^ e % d
def qgN (M d : Int) (i e : Nat) : Int := dg (M / d) i / 2 ^ e
theorem rsN_bd (M : Int) {d : Int} (hd : 0 < d) (i e : Nat) : 0 ≤ rsN M d i e ∧ rsN M d i e < d := ⟨Int.emod_nonneg _ (by omega), Int.emod_lt_of_pos _ hd⟩
theorem pow_half (x : Int) (e : Nat) : x / 2 ^ (e + 1) = x / 2 ^ e / 2 := by
  rw [Int.pow_succ, Int.ediv_ediv_of_nonneg (by have := two_pow_pos e; omega)]
theorem qgN_bd (M d : Int) (i e : Nat) : 0 ≤ qgN M d i e ∧ qgN M d i e ≤ 4294967295 := by
  have h := dg_bd (M / d) i
  have h1 := two_pow_pos e
  unfold qgN
  exact ⟨Int.ediv_nonneg h.1 (by omega), Int.le_trans (Int.ediv_le_self _ h.1) h.2⟩
theorem rsN_top (M d : Int) (i : Nat) : rsN M d i 32 = qd M (i + 1) % d := by
  unfold rsN
  rw [show (2 : Int) ^ 32 = 4294967296 by decide]
  rfl
theorem rsN_zero (M d : Int) (i : Nat) : rsN M d i 0 = qd M i % d := by unfold rsN; rw [Int.pow_zero, Int.ediv_one]
theorem qgN_top (M d : Int) (i : Nat) : qgN M d i 32 = 0 := by
  have h := dg_bd (M / d) i
  unfold qgN
  rw [show (2 : Int) ^ 32 = 4294967296 by decide]
  omega
theorem qgN_zero (M d : Int) (i : Nat) : qgN M d i 0 = dg (M / d) i := by unfold qgN; rw [Int.pow_zero, Int.ediv_one]
/-- The step. -/
theorem rq_step (M : Int) {d : Int} (hd : 0 < d) (i : Nat) {e : Nat} (he : e < 32) :
    (d ≤ 2 * rsN M d i (e + 1) + dg M i / 2 ^ e % 2 → rsN M d i e = 2 * rsN M d i (e + 1) + dg M i / 2 ^ e % 2 - d ∧ qgN M d i e = 2 * qgN M d i (e + 1) + 1) ∧
    (2 * rsN M d i (e + 1) + dg M i / 2 ^ e % 2 < d → rsN M d i e = 2 * rsN M d i (e + 1) + dg M i / 2 ^ e % 2 ∧ qgN M d i e = 2 * qgN M d i (e + 1)) := by
  have hb : dg M i / 2 ^ e % 2 = qd M i / 2 ^ e % 2 := bit_low _ he
  have h := qstep (qd M i / 2 ^ e) hd
  have hq : qgN M d i e % 2 = qd M i / 2 ^ e / d % 2 := by
    unfold qgN dg
    rw [bit_low _ he, qd_div M hd i, ediv_swap _ hd (two_pow_pos e)]
  have hq2 : qgN M d i (e + 1) = qgN M d i e / 2 := by unfold qgN; exact pow_half _ _
  unfold rsN
  rw [hb, hq2, pow_half]
  generalize qd M i / 2 ^ e = N at *
  generalize qgN M d i e = g at *
  constructor
  · intro h1
    obtain ⟨k1, k2⟩ := h.1 h1
    exact ⟨k1, by omega⟩
  · intro h1
    obtain ⟨k1, k2⟩ := h.2 h1
    exact ⟨k1, by omega⟩
end Go.Proofs.Ythingodgjeicpaa
