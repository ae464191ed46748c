/-
  Layer fix: products.
-/
import Derived.Test.YtkmfdggodinjaaaWideR
import Derived.Test.YtkmfdggodinjaaaFixA
namespace Go.Proofs.Ytkmfdggodinjaaa
open Go.RowKit
set_option linter.unusedVariables false
set_option linter.unusedSimpArgs false
set_option maxRecDepth 8000

theorem mul_bd {a b : Int} (ha : I64 a) (hb : I64 b) : -85070591730234615865843651857942052864 ≤ a * b ∧ a * b ≤ 85070591730234615865843651857942052864 := by
  unfold I64 at *
  have h1 : a.natAbs ≤ 9223372036854775808 := by omega
  have h2 : b.natAbs ≤ 9223372036854775808 := by omega
  have h3 : (a * b).natAbs ≤ 9223372036854775808 * 9223372036854775808 := by rw [Int.natAbs_mul]; exact Nat.mul_le_mul h1 h2
  omega
theorem mul_I128 {a b : Int} (ha : I64 a) (hb : I64 b) : I128 (a * b) := by have := mul_bd ha hb; unfold I128; omega
theorem rne_I128 {v : Int} (h : I128 v) : I128 (rne v 4294967296) := by unfold I128 at *; unfold rne; split <;> omega

set_option maxRecDepth 100000 in
set_option maxHeartbeats 1600000 in
theorem fixMul_any (a b : Int) (w : World) (ha : I64 a) (hb : I64 b) :
    Calls Try.prog 73 #[.int .i64 a, .int .i64 b] w fun e w' => e = .returned (Held (rne (a * b) 4294967296)) ∧ Below w.heap.size w w' := by
  have HM := Lib.hid (fun w => Mul_any a b w ha hb)
  have HR := Lib.hid (fun w => Round32_any (a * b) w (mul_I128 ha hb))
  have HH := Lib.hid (fun w => held_any (rne (a * b) 4294967296) w (rne_I128 (mul_I128 ha hb)))
  unfold W at *
  clear ha hb
  go_enter Try.func73, Try.ntmps73
  go_wp2_with first
    | ((with_reducible refine (HM.out _).mono ?_); rintro e w1 ⟨rfl, hb1⟩; have z1 := hb1.size)
    | ((with_reducible refine (HR.out _).mono ?_); rintro e w2 ⟨rfl, hb2⟩; have z2 := hb2.size)
    | ((with_reducible refine (HH.out _).mono ?_); rintro e w3 ⟨rfl, hb3⟩)
    | fail
  go_ret2
  exact ⟨rfl, by (repeat first | assumption | exact Below.refl _ _ | refine Below.drew ?_ | refine Below.drewN ?_ _ | refine Below.alloc ?_ (by (first | omega | (simp; done) | (simp; omega))) _ | refine Below.setCell ?_ (by (first | omega | (simp; done) | (simp; omega))) _ | refine Below.trans ?_ (Below.mono (by assumption) (by (first | omega | (simp; done) | (simp; omega)))))⟩
end Go.Proofs.Ytkmfdggodinjaaa
