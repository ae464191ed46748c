/-
  Words put together by 'or', taken apart by 'and': plain laws. No program is named.
-/
import Derived.Test.YtkmfdggodinjaaaNum
import Derived.Laws.Bits64b
namespace Go.Proofs.Ytkmfdggodinjaaa
open Go.RowKit
set_option linter.unusedVariables false
set_option linter.unusedSimpArgs false

theorem nat_or_add {a b k : Nat} (ha : a % 2 ^ k = 0) (hb : b < 2 ^ k) : a ||| b = a + b := by
  have h := Nat.two_pow_add_eq_or_of_lt hb (a / 2 ^ k)
  have e : 2 ^ k * (a / 2 ^ k) = a := by
    have := Nat.div_add_mod a (2 ^ k)
    omega
  rw [e] at h
  exact h.symm

theorem toNat_ofInt64 (x : Int) : (BitVec.ofInt 64 x).toNat = (x % 18446744073709551616).toNat := by
  rw [BitVec.toNat_ofInt]; rfl

theorem or_add_u64 {x y : Int} (k : Nat) (hx : 0 ≤ x) (hx2 : x < 18446744073709551616) (hy : 0 ≤ y) (hm : x.toNat % 2 ^ k = 0) (hk : y.toNat < 2 ^ k) (hs : x + y < 18446744073709551616) :
    bits .or .u64 x y = x + y ∧ bits .or .u64 y x = x + y := by
  obtain ⟨a, rfl⟩ := Int.eq_ofNat_of_zero_le hx
  obtain ⟨b, rfl⟩ := Int.eq_ofNat_of_zero_le hy
  have h := nat_or_add (by simpa using hm) (by simpa using hk : b < 2 ^ k)
  constructor
  · rw [bits_or_u64_nat a b (by omega) (by omega), h]; simp
  · rw [bits_or_u64_nat b a (by omega) (by omega), Nat.or_comm, h]; simp

theorem or_add_i64 {x y : Int} (k : Nat) (hm : (x % 18446744073709551616).toNat % 2 ^ k = 0) (hy : 0 ≤ y) (hy2 : y < 18446744073709551616) (hk : y.toNat < 2 ^ k) (hs : x % 18446744073709551616 + y < 18446744073709551616) :
    bits .or .i64 x y = wrap64 (x + y) := by
  have e : bits .or .i64 x y = IntKind.i64.wrap (((BitVec.ofInt 64 x) ||| (BitVec.ofInt 64 y)).toNat : Int) := rfl
  have h0 : 0 ≤ x % 18446744073709551616 := Int.emod_nonneg _ (by omega)
  rw [e, BitVec.toNat_or, toNat_ofInt64, toNat_ofInt64]
  have e2 : y % 18446744073709551616 = y := by omega
  rw [e2, nat_or_add hm hk, IntKind.wrap_i64]
  unfold wrap64
  omega
theorem and_one_u64 {x : Int} (h : 0 ≤ x) (h2 : x < 18446744073709551616) : bits .and .u64 x 1 = x % 2 := by
  obtain ⟨n, rfl⟩ := Int.eq_ofNat_of_zero_le h
  have := bits_and_u64_nat n 1 (by omega) (by omega)
  rw [show (1 : Int) = ((1 : Nat) : Int) from rfl, this, Nat.and_one_is_mod]
  simp

end Go.Proofs.Ytkmfdggodinjaaa
