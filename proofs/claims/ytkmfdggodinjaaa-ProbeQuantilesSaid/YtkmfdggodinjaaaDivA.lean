/-
  math/bits: how long a small word is, two words by a small one.
-/
import Derived.Test.YtkmfdggodinjaaaQuoN
import Derived.Test.YtkmfdggodinjaaaWideA
import Derived.Test.YtkmfdggodinjaaaBits
namespace Go.Proofs.Ytkmfdggodinjaaa
open Go.RowKit
set_option linter.unusedVariables false
set_option linter.unusedSimpArgs false

def lenI (y : Int) : Int := if y < 1 then 0 else if y < 2 then 1 else if y < 4 then 2 else if y < 8 then 3 else if y < 16 then 4 else if y < 32 then 5 else if y < 64 then 6 else 7

set_option maxHeartbeats 800000 in
set_option maxRecDepth 100000 in
theorem Len64_any (y : Int) (w : World) (h0 : 0 ≤ y) (h1 : y < 128) :
    Calls Try.prog 98 #[.int .u64 y] w fun e w' => e = .returned (.int .i64 (lenI y)) ∧ w = w' := by
  go_enter Try.func98, Try.ntmps98
  go_wp2
  go_ret
  refine ⟨congrArg (fun z => Ending.returned (.int .i64 z)) ?_, rfl⟩
  obtain ⟨n, rfl⟩ := Int.eq_ofNat_of_zero_le h0
  have hn : n < 128 := by omega
  simp only [Int.toNat_natCast]
  rw [← getElem!_pos]
  rename_i k1 k2 k3
  clear k1 k2 k3 h0 h1
  revert n hn
  decide +kernel

set_option maxHeartbeats 800000 in
set_option maxRecDepth 100000 in
theorem LZ_any (y : Int) (w : World) (h0 : 0 ≤ y) (h1 : y < 128) :
    Calls Try.prog 106 #[.int .u64 y] w fun e w' => e = .returned (.int .i64 (64 - lenI y)) ∧ w = w' := by
  have HL := Lib.hid (fun w => Len64_any y w h0 h1)
  have hl : 0 ≤ lenI y ∧ lenI y ≤ 7 := by unfold lenI; repeat' split <;> omega
  generalize lenI y = l at *
  clear h0 h1
  go_enter Try.func106, Try.ntmps106
  go_wp2_with first
    | ((with_reducible refine (HL.out _).mono ?_); rintro e w1 ⟨rfl, rfl⟩)
    | fail
  go_ret
  exact ⟨by go_num, rfl⟩

/-- Two words by a small one, as it is reckoned: c is what the small one is shifted by, less a half word. -/
theorem div_words {h l y c R : Int} (hy : 0 < y) (hc : 0 < c) (hR : 0 < R) (hcR : c * R = 4294967296) :
    (h * 18446744073709551616 + l) / y = (h * (c * 4294967296) + l / R) / (y * c) * 4294967296 + ((h * (c * 4294967296) + l / R) % (y * c) * 4294967296 + l % R * c) / (y * c) ∧
    (h * 18446744073709551616 + l) % y * c = ((h * (c * 4294967296) + l / R) % (y * c) * 4294967296 + l % R * c) % (y * c) := by
  have e0 : l % R * c + l / R * 4294967296 = l * c := by
    have := Int.emod_add_mul_ediv l R
    rw [← hcR]
    conv => rhs; rw [← this]
    rw [Int.add_mul, Int.mul_right_comm R, Int.mul_comm R c, Int.mul_comm (l / R)]
  have e1 : (h * 18446744073709551616 + l) * c = (h * (c * 4294967296) + l / R) * 4294967296 + l % R * c := by
    have e4 : h * (c * 4294967296) * 4294967296 = h * c * 18446744073709551616 := by rw [← Int.mul_assoc, Int.mul_assoc (h * c)]; rfl
    have e5 : h * 18446744073709551616 * c = h * c * 18446744073709551616 := Int.mul_right_comm _ _ _
    rw [Int.add_mul, ← e0, Int.add_mul, e4, e5]
    omega
  generalize hU : h * (c * 4294967296) + l / R = U at *
  generalize l % R * c = V at *
  have hyc : 0 < y * c := Int.mul_pos hy hc
  have e2 : U * 4294967296 + V = (U % (y * c) * 4294967296 + V) + (U / (y * c) * 4294967296) * (y * c) := by
    have e3 := Int.mul_ediv_add_emod U (y * c)
    conv => lhs; rw [← e3]
    rw [Int.add_mul, Int.mul_comm (y * c), Int.mul_right_comm (U / (y * c)) (y * c)]
    omega
  refine ⟨?_, ?_⟩
  · rw [← Int.mul_ediv_mul_of_pos_left _ _ hc, e1, e2, Int.add_mul_ediv_right _ _ (by omega), Int.add_comm]
  · rw [Int.mul_comm, ← Int.mul_emod_mul_of_pos _ _ hc, Int.mul_comm c, Int.mul_comm c, e1, e2, Int.add_mul_emod_self_right]
theorem div_bd {U Y : Int} (hY : 0 < Y) (hY2 : Y ≤ 4294967296) (hU : 0 ≤ U) (hU2 : U < Y * 4294967296) :
    0 ≤ U / Y ∧ U / Y < 4294967296 ∧ 0 ≤ U % Y ∧ U % Y < Y ∧ U / Y * Y + U % Y = U ∧ 0 ≤ U / Y * Y ∧ U / Y * Y ≤ U := by
  have h1 := Int.emod_nonneg U (b := Y) (by omega)
  have h2 := Int.emod_lt_of_pos U hY
  have h3 := Int.mul_ediv_add_emod U Y
  have h4 : 0 ≤ U / Y := Int.ediv_nonneg hU (by omega)
  have h5 : U / Y < 4294967296 := by
    refine (Int.ediv_lt_iff_lt_mul hY).2 ?_
    rw [Int.mul_comm]; exact hU2
  have h6 := Int.mul_nonneg h4 (by omega : 0 ≤ Y)
  rw [Int.mul_comm] at h3
  omega
theorem and_low32 {x : Int} (h : 0 ≤ x) (h2 : x < 18446744073709551616) (h3 : x % 4294967296 = 0) : bits .and .u64 x 4294967295 = 0 := by
  obtain ⟨n, rfl⟩ := Int.eq_ofNat_of_zero_le h
  have := bits_and_u64_nat n 4294967295 (by omega) (by omega)
  rw [show (4294967295 : Int) = ((4294967295 : Nat) : Int) from rfl, this, show (4294967295 : Nat) = 2 ^ 32 - 1 from rfl, Nat.and_two_pow_sub_one_eq_mod]
  omega

set_option maxHeartbeats 3200000 in
set_option maxRecDepth 100000 in
theorem Div64_1 (h l y : Int) (w : World) (h0 : 0 < h) (h1 : h < y) (l0 : 0 ≤ l) (l1 : l < 18446744073709551616) (y0 : 2 ≤ y) (y1 : y < 4) :
    Calls Try.prog 79 #[.int .u64 h, .int .u64 l, .int .u64 y] w fun e w' => e = .returned (.tuple #[.int .u64 ((h * 18446744073709551616 + l) / y), .int .u64 ((h * 18446744073709551616 + l) % y)]) ∧ w = w' := by
  have HL := Lib.hid (fun w => LZ_any y w (by omega) (by omega))
  rw [show lenI y = 2 by unfold lenI; (repeat' split) <;> omega] at HL
  obtain ⟨D1, D2⟩ := div_words (h := h) (l := l) (y := y) (c := 1073741824) (R := 4) (by omega) (by omega) (by omega) (by omega)
  rw [show h * (1073741824 * 4294967296) = h * 4611686018427387904 by omega] at D1 D2
  have E1 : Hid (y * 4611686018427387904 / 4294967296 = y * 1073741824) := Lib.hid (by omega)
  have E2 : Hid (bits .and .u64 (y * 4611686018427387904) 4294967295 = 0) := Lib.hid (and_low32 (by omega) (by omega) (by omega))
  have E3 : Hid (bits .or .u64 (h * 4611686018427387904) (l / 4) = h * 4611686018427387904 + l / 4) := Lib.hid (or_add_u64 62 (by omega) (by omega) (by omega) (by omega) (by omega) (by omega)).1
  have E4 : Hid (IntKind.u64.wrap (l * 4611686018427387904) = l % 4 * 1073741824 * 4294967296) := Lib.hid (by rw [IntKind.wrap_u64]; omega)
  have E5 : Hid (l % 4 * 1073741824 * 4294967296 / 4294967296 = l % 4 * 1073741824) := Lib.hid (by omega)
  have E6 : Hid (bits .and .u64 (l % 4 * 1073741824 * 4294967296) 4294967295 = 0) := Lib.hid (and_low32 (by omega) (by omega) (by omega))
  have hU0 : 0 ≤ h * 4611686018427387904 + l / 4 := by omega
  have hUY : h * 4611686018427387904 + l / 4 < y * 1073741824 * 4294967296 := by omega
  have hV0 : 0 ≤ l % 4 * 1073741824 := by omega
  have hV1 : l % 4 * 1073741824 < 4294967296 := by omega
  have hY0 : 0 < y * 1073741824 := by omega
  have hY1 : y * 1073741824 ≤ 4294967296 := by omega
  have Hy : Hid (y * 4611686018427387904 = y * 1073741824 * 4294967296) := Lib.hid (by omega)
  have Hm : Hid ((h * 18446744073709551616 + l) % y = (h * 18446744073709551616 + l) % y * 1073741824 * 4294967296 / 4611686018427387904) := Lib.hid (by omega)
  rw [D2] at Hm
  have HD1 := Lib.hid D1
  clear D1 D2
  go_enter Try.func79, Try.ntmps79
  go_wp2_with first
    | ((with_reducible refine (HL.out _).mono ?_); rintro e w1 ⟨rfl, rfl⟩)
    | fail
  simp only [E1.out, E2.out, E3.out, E4.out, E5.out, E6.out]
  generalize h * 4611686018427387904 + l / 4 = U at *
  generalize l % 4 * 1073741824 = V at *
  simp only [Hy.out]
  clear E1 E2 E3 E4 E5 E6 HL
  generalize y * 1073741824 = Y at *
  obtain ⟨q0, q1, r0, r1, qr, p0, p1⟩ := div_bd hY0 hY1 hU0 hUY
  have F1 : Hid (IntKind.u64.wrap (U.tdiv Y) = U / Y) := Lib.hid (by rw [Int.tdiv_eq_ediv_of_nonneg hU0, IntKind.wrap_u64]; omega)
  have F2 : Hid (IntKind.u64.wrap (U - IntKind.u64.wrap (U / Y * Y)) = U % Y) := Lib.hid (by rw [IntKind.wrap_u64, IntKind.wrap_u64]; omega)
  simp only [F1.out, F2.out]
  have hX0 : 0 ≤ U % Y * 4294967296 + V := by omega
  have hX1 : U % Y * 4294967296 + V < Y * 4294967296 := by omega
  have F3 : Hid (IntKind.u64.wrap (IntKind.u64.wrap (IntKind.u64.wrap (U * 4294967296) + V) - IntKind.u64.wrap (U / Y * (Y * 4294967296))) = U % Y * 4294967296 + V) := Lib.hid (by
    rw [IntKind.wrap_u64, IntKind.wrap_u64, IntKind.wrap_u64, IntKind.wrap_u64, ← Int.mul_assoc]
    omega)
  generalize U / Y = q at *
  generalize U % Y = r at *
  refine wp_loop_rounds 1 ?_
  rw [rounds_succ]
  go_wp2
  simp only [F3.out]
  clear F1 F2 F3 p0 p1 qr hU0 hUY
  generalize r * 4294967296 + V = X at *
  clear r0 r1 hV0 hV1
  obtain ⟨s0, s1, t0, t1, st, z0, z1⟩ := div_bd hY0 hY1 hX0 hX1
  have G1 : Hid (IntKind.u64.wrap (X.tdiv Y) = X / Y) := Lib.hid (by rw [Int.tdiv_eq_ediv_of_nonneg hX0, IntKind.wrap_u64]; omega)
  have G2 : Hid (IntKind.u64.wrap (X - IntKind.u64.wrap (X / Y * Y)) = X % Y) := Lib.hid (by rw [IntKind.wrap_u64, IntKind.wrap_u64]; omega)
  simp only [G1.out, G2.out]
  have G3 : Hid (IntKind.u64.wrap (IntKind.u64.wrap (X * 4294967296) - IntKind.u64.wrap (X / Y * (Y * 4294967296))) = X % Y * 4294967296) := Lib.hid (by
    rw [IntKind.wrap_u64, IntKind.wrap_u64, IntKind.wrap_u64, ← Int.mul_assoc]
    omega)
  have G4 : Hid (IntKind.u64.wrap (IntKind.u64.wrap (IntKind.u64.wrap (X * 4294967296)) - IntKind.u64.wrap (X / Y * (Y * 4294967296))) = X % Y * 4294967296) := Lib.hid (by
    rw [IntKind.wrap_u64, IntKind.wrap_u64, IntKind.wrap_u64, IntKind.wrap_u64, ← Int.mul_assoc]
    omega)
  generalize X / Y = q' at *
  generalize X % Y = r' at *
  clear G1 G2
  refine wp_loop_rounds 1 ?_
  rw [rounds_succ]
  go_wp2
  try simp only [G3.out, G4.out]
  go_ret2
  refine ⟨?_, rfl⟩
  rw [HD1.out, Hm.out]
  simp only [G4.out]
  rfl

set_option maxHeartbeats 3200000 in
set_option maxRecDepth 100000 in
theorem Div64_2 (h l y : Int) (w : World) (h0 : 0 < h) (h1 : h < y) (l0 : 0 ≤ l) (l1 : l < 18446744073709551616) (y0 : 4 ≤ y) (y1 : y < 8) :
    Calls Try.prog 79 #[.int .u64 h, .int .u64 l, .int .u64 y] w fun e w' => e = .returned (.tuple #[.int .u64 ((h * 18446744073709551616 + l) / y), .int .u64 ((h * 18446744073709551616 + l) % y)]) ∧ w = w' := by
  have HL := Lib.hid (fun w => LZ_any y w (by omega) (by omega))
  rw [show lenI y = 3 by unfold lenI; (repeat' split) <;> omega] at HL
  obtain ⟨D1, D2⟩ := div_words (h := h) (l := l) (y := y) (c := 536870912) (R := 8) (by omega) (by omega) (by omega) (by omega)
  rw [show h * (536870912 * 4294967296) = h * 2305843009213693952 by omega] at D1 D2
  have E1 : Hid (y * 2305843009213693952 / 4294967296 = y * 536870912) := Lib.hid (by omega)
  have E2 : Hid (bits .and .u64 (y * 2305843009213693952) 4294967295 = 0) := Lib.hid (and_low32 (by omega) (by omega) (by omega))
  have E3 : Hid (bits .or .u64 (h * 2305843009213693952) (l / 8) = h * 2305843009213693952 + l / 8) := Lib.hid (or_add_u64 61 (by omega) (by omega) (by omega) (by omega) (by omega) (by omega)).1
  have E4 : Hid (IntKind.u64.wrap (l * 2305843009213693952) = l % 8 * 536870912 * 4294967296) := Lib.hid (by rw [IntKind.wrap_u64]; omega)
  have E5 : Hid (l % 8 * 536870912 * 4294967296 / 4294967296 = l % 8 * 536870912) := Lib.hid (by omega)
  have E6 : Hid (bits .and .u64 (l % 8 * 536870912 * 4294967296) 4294967295 = 0) := Lib.hid (and_low32 (by omega) (by omega) (by omega))
  have hU0 : 0 ≤ h * 2305843009213693952 + l / 8 := by omega
  have hUY : h * 2305843009213693952 + l / 8 < y * 536870912 * 4294967296 := by omega
  have hV0 : 0 ≤ l % 8 * 536870912 := by omega
  have hV1 : l % 8 * 536870912 < 4294967296 := by omega
  have hY0 : 0 < y * 536870912 := by omega
  have hY1 : y * 536870912 ≤ 4294967296 := by omega
  have Hy : Hid (y * 2305843009213693952 = y * 536870912 * 4294967296) := Lib.hid (by omega)
  have Hm : Hid ((h * 18446744073709551616 + l) % y = (h * 18446744073709551616 + l) % y * 536870912 * 4294967296 / 2305843009213693952) := Lib.hid (by omega)
  rw [D2] at Hm
  have HD1 := Lib.hid D1
  clear D1 D2
  go_enter Try.func79, Try.ntmps79
  go_wp2_with first
    | ((with_reducible refine (HL.out _).mono ?_); rintro e w1 ⟨rfl, rfl⟩)
    | fail
  simp only [E1.out, E2.out, E3.out, E4.out, E5.out, E6.out]
  generalize h * 2305843009213693952 + l / 8 = U at *
  generalize l % 8 * 536870912 = V at *
  simp only [Hy.out]
  clear E1 E2 E3 E4 E5 E6 HL
  generalize y * 536870912 = Y at *
  obtain ⟨q0, q1, r0, r1, qr, p0, p1⟩ := div_bd hY0 hY1 hU0 hUY
  have F1 : Hid (IntKind.u64.wrap (U.tdiv Y) = U / Y) := Lib.hid (by rw [Int.tdiv_eq_ediv_of_nonneg hU0, IntKind.wrap_u64]; omega)
  have F2 : Hid (IntKind.u64.wrap (U - IntKind.u64.wrap (U / Y * Y)) = U % Y) := Lib.hid (by rw [IntKind.wrap_u64, IntKind.wrap_u64]; omega)
  simp only [F1.out, F2.out]
  have hX0 : 0 ≤ U % Y * 4294967296 + V := by omega
  have hX1 : U % Y * 4294967296 + V < Y * 4294967296 := by omega
  have F3 : Hid (IntKind.u64.wrap (IntKind.u64.wrap (IntKind.u64.wrap (U * 4294967296) + V) - IntKind.u64.wrap (U / Y * (Y * 4294967296))) = U % Y * 4294967296 + V) := Lib.hid (by
    rw [IntKind.wrap_u64, IntKind.wrap_u64, IntKind.wrap_u64, IntKind.wrap_u64, ← Int.mul_assoc]
    omega)
  generalize U / Y = q at *
  generalize U % Y = r at *
  refine wp_loop_rounds 1 ?_
  rw [rounds_succ]
  go_wp2
  simp only [F3.out]
  clear F1 F2 F3 p0 p1 qr hU0 hUY
  generalize r * 4294967296 + V = X at *
  clear r0 r1 hV0 hV1
  obtain ⟨s0, s1, t0, t1, st, z0, z1⟩ := div_bd hY0 hY1 hX0 hX1
  have G1 : Hid (IntKind.u64.wrap (X.tdiv Y) = X / Y) := Lib.hid (by rw [Int.tdiv_eq_ediv_of_nonneg hX0, IntKind.wrap_u64]; omega)
  have G2 : Hid (IntKind.u64.wrap (X - IntKind.u64.wrap (X / Y * Y)) = X % Y) := Lib.hid (by rw [IntKind.wrap_u64, IntKind.wrap_u64]; omega)
  simp only [G1.out, G2.out]
  have G3 : Hid (IntKind.u64.wrap (IntKind.u64.wrap (X * 4294967296) - IntKind.u64.wrap (X / Y * (Y * 4294967296))) = X % Y * 4294967296) := Lib.hid (by
    rw [IntKind.wrap_u64, IntKind.wrap_u64, IntKind.wrap_u64, ← Int.mul_assoc]
    omega)
  have G4 : Hid (IntKind.u64.wrap (IntKind.u64.wrap (IntKind.u64.wrap (X * 4294967296)) - IntKind.u64.wrap (X / Y * (Y * 4294967296))) = X % Y * 4294967296) := Lib.hid (by
    rw [IntKind.wrap_u64, IntKind.wrap_u64, IntKind.wrap_u64, IntKind.wrap_u64, ← Int.mul_assoc]
    omega)
  generalize X / Y = q' at *
  generalize X % Y = r' at *
  clear G1 G2
  refine wp_loop_rounds 1 ?_
  rw [rounds_succ]
  go_wp2
  try simp only [G3.out, G4.out]
  go_ret2
  refine ⟨?_, rfl⟩
  rw [HD1.out, Hm.out]
  simp only [G4.out]
  rfl

set_option maxHeartbeats 3200000 in
set_option maxRecDepth 100000 in
theorem Div64_3 (h l y : Int) (w : World) (h0 : 0 < h) (h1 : h < y) (l0 : 0 ≤ l) (l1 : l < 18446744073709551616) (y0 : 8 ≤ y) (y1 : y < 16) :
    Calls Try.prog 79 #[.int .u64 h, .int .u64 l, .int .u64 y] w fun e w' => e = .returned (.tuple #[.int .u64 ((h * 18446744073709551616 + l) / y), .int .u64 ((h * 18446744073709551616 + l) % y)]) ∧ w = w' := by
  have HL := Lib.hid (fun w => LZ_any y w (by omega) (by omega))
  rw [show lenI y = 4 by unfold lenI; (repeat' split) <;> omega] at HL
  obtain ⟨D1, D2⟩ := div_words (h := h) (l := l) (y := y) (c := 268435456) (R := 16) (by omega) (by omega) (by omega) (by omega)
  rw [show h * (268435456 * 4294967296) = h * 1152921504606846976 by omega] at D1 D2
  have E1 : Hid (y * 1152921504606846976 / 4294967296 = y * 268435456) := Lib.hid (by omega)
  have E2 : Hid (bits .and .u64 (y * 1152921504606846976) 4294967295 = 0) := Lib.hid (and_low32 (by omega) (by omega) (by omega))
  have E3 : Hid (bits .or .u64 (h * 1152921504606846976) (l / 16) = h * 1152921504606846976 + l / 16) := Lib.hid (or_add_u64 60 (by omega) (by omega) (by omega) (by omega) (by omega) (by omega)).1
  have E4 : Hid (IntKind.u64.wrap (l * 1152921504606846976) = l % 16 * 268435456 * 4294967296) := Lib.hid (by rw [IntKind.wrap_u64]; omega)
  have E5 : Hid (l % 16 * 268435456 * 4294967296 / 4294967296 = l % 16 * 268435456) := Lib.hid (by omega)
  have E6 : Hid (bits .and .u64 (l % 16 * 268435456 * 4294967296) 4294967295 = 0) := Lib.hid (and_low32 (by omega) (by omega) (by omega))
  have hU0 : 0 ≤ h * 1152921504606846976 + l / 16 := by omega
  have hUY : h * 1152921504606846976 + l / 16 < y * 268435456 * 4294967296 := by omega
  have hV0 : 0 ≤ l % 16 * 268435456 := by omega
  have hV1 : l % 16 * 268435456 < 4294967296 := by omega
  have hY0 : 0 < y * 268435456 := by omega
  have hY1 : y * 268435456 ≤ 4294967296 := by omega
  have Hy : Hid (y * 1152921504606846976 = y * 268435456 * 4294967296) := Lib.hid (by omega)
  have Hm : Hid ((h * 18446744073709551616 + l) % y = (h * 18446744073709551616 + l) % y * 268435456 * 4294967296 / 1152921504606846976) := Lib.hid (by omega)
  rw [D2] at Hm
  have HD1 := Lib.hid D1
  clear D1 D2
  go_enter Try.func79, Try.ntmps79
  go_wp2_with first
    | ((with_reducible refine (HL.out _).mono ?_); rintro e w1 ⟨rfl, rfl⟩)
    | fail
  simp only [E1.out, E2.out, E3.out, E4.out, E5.out, E6.out]
  generalize h * 1152921504606846976 + l / 16 = U at *
  generalize l % 16 * 268435456 = V at *
  simp only [Hy.out]
  clear E1 E2 E3 E4 E5 E6 HL
  generalize y * 268435456 = Y at *
  obtain ⟨q0, q1, r0, r1, qr, p0, p1⟩ := div_bd hY0 hY1 hU0 hUY
  have F1 : Hid (IntKind.u64.wrap (U.tdiv Y) = U / Y) := Lib.hid (by rw [Int.tdiv_eq_ediv_of_nonneg hU0, IntKind.wrap_u64]; omega)
  have F2 : Hid (IntKind.u64.wrap (U - IntKind.u64.wrap (U / Y * Y)) = U % Y) := Lib.hid (by rw [IntKind.wrap_u64, IntKind.wrap_u64]; omega)
  simp only [F1.out, F2.out]
  have hX0 : 0 ≤ U % Y * 4294967296 + V := by omega
  have hX1 : U % Y * 4294967296 + V < Y * 4294967296 := by omega
  have F3 : Hid (IntKind.u64.wrap (IntKind.u64.wrap (IntKind.u64.wrap (U * 4294967296) + V) - IntKind.u64.wrap (U / Y * (Y * 4294967296))) = U % Y * 4294967296 + V) := Lib.hid (by
    rw [IntKind.wrap_u64, IntKind.wrap_u64, IntKind.wrap_u64, IntKind.wrap_u64, ← Int.mul_assoc]
    omega)
  generalize U / Y = q at *
  generalize U % Y = r at *
  refine wp_loop_rounds 1 ?_
  rw [rounds_succ]
  go_wp2
  simp only [F3.out]
  clear F1 F2 F3 p0 p1 qr hU0 hUY
  generalize r * 4294967296 + V = X at *
  clear r0 r1 hV0 hV1
  obtain ⟨s0, s1, t0, t1, st, z0, z1⟩ := div_bd hY0 hY1 hX0 hX1
  have G1 : Hid (IntKind.u64.wrap (X.tdiv Y) = X / Y) := Lib.hid (by rw [Int.tdiv_eq_ediv_of_nonneg hX0, IntKind.wrap_u64]; omega)
  have G2 : Hid (IntKind.u64.wrap (X - IntKind.u64.wrap (X / Y * Y)) = X % Y) := Lib.hid (by rw [IntKind.wrap_u64, IntKind.wrap_u64]; omega)
  simp only [G1.out, G2.out]
  have G3 : Hid (IntKind.u64.wrap (IntKind.u64.wrap (X * 4294967296) - IntKind.u64.wrap (X / Y * (Y * 4294967296))) = X % Y * 4294967296) := Lib.hid (by
    rw [IntKind.wrap_u64, IntKind.wrap_u64, IntKind.wrap_u64, ← Int.mul_assoc]
    omega)
  have G4 : Hid (IntKind.u64.wrap (IntKind.u64.wrap (IntKind.u64.wrap (X * 4294967296)) - IntKind.u64.wrap (X / Y * (Y * 4294967296))) = X % Y * 4294967296) := Lib.hid (by
    rw [IntKind.wrap_u64, IntKind.wrap_u64, IntKind.wrap_u64, IntKind.wrap_u64, ← Int.mul_assoc]
    omega)
  generalize X / Y = q' at *
  generalize X % Y = r' at *
  clear G1 G2
  refine wp_loop_rounds 1 ?_
  rw [rounds_succ]
  go_wp2
  try simp only [G3.out, G4.out]
  go_ret2
  refine ⟨?_, rfl⟩
  rw [HD1.out, Hm.out]
  simp only [G4.out]
  rfl

set_option maxHeartbeats 3200000 in
set_option maxRecDepth 100000 in
theorem Div64_4 (h l y : Int) (w : World) (h0 : 0 < h) (h1 : h < y) (l0 : 0 ≤ l) (l1 : l < 18446744073709551616) (y0 : 16 ≤ y) (y1 : y < 32) :
    Calls Try.prog 79 #[.int .u64 h, .int .u64 l, .int .u64 y] w fun e w' => e = .returned (.tuple #[.int .u64 ((h * 18446744073709551616 + l) / y), .int .u64 ((h * 18446744073709551616 + l) % y)]) ∧ w = w' := by
  have HL := Lib.hid (fun w => LZ_any y w (by omega) (by omega))
  rw [show lenI y = 5 by unfold lenI; (repeat' split) <;> omega] at HL
  obtain ⟨D1, D2⟩ := div_words (h := h) (l := l) (y := y) (c := 134217728) (R := 32) (by omega) (by omega) (by omega) (by omega)
  rw [show h * (134217728 * 4294967296) = h * 576460752303423488 by omega] at D1 D2
  have E1 : Hid (y * 576460752303423488 / 4294967296 = y * 134217728) := Lib.hid (by omega)
  have E2 : Hid (bits .and .u64 (y * 576460752303423488) 4294967295 = 0) := Lib.hid (and_low32 (by omega) (by omega) (by omega))
  have E3 : Hid (bits .or .u64 (h * 576460752303423488) (l / 32) = h * 576460752303423488 + l / 32) := Lib.hid (or_add_u64 59 (by omega) (by omega) (by omega) (by omega) (by omega) (by omega)).1
  have E4 : Hid (IntKind.u64.wrap (l * 576460752303423488) = l % 32 * 134217728 * 4294967296) := Lib.hid (by rw [IntKind.wrap_u64]; omega)
  have E5 : Hid (l % 32 * 134217728 * 4294967296 / 4294967296 = l % 32 * 134217728) := Lib.hid (by omega)
  have E6 : Hid (bits .and .u64 (l % 32 * 134217728 * 4294967296) 4294967295 = 0) := Lib.hid (and_low32 (by omega) (by omega) (by omega))
  have hU0 : 0 ≤ h * 576460752303423488 + l / 32 := by omega
  have hUY : h * 576460752303423488 + l / 32 < y * 134217728 * 4294967296 := by omega
  have hV0 : 0 ≤ l % 32 * 134217728 := by omega
  have hV1 : l % 32 * 134217728 < 4294967296 := by omega
  have hY0 : 0 < y * 134217728 := by omega
  have hY1 : y * 134217728 ≤ 4294967296 := by omega
  have Hy : Hid (y * 576460752303423488 = y * 134217728 * 4294967296) := Lib.hid (by omega)
  have Hm : Hid ((h * 18446744073709551616 + l) % y = (h * 18446744073709551616 + l) % y * 134217728 * 4294967296 / 576460752303423488) := Lib.hid (by omega)
  rw [D2] at Hm
  have HD1 := Lib.hid D1
  clear D1 D2
  go_enter Try.func79, Try.ntmps79
  go_wp2_with first
    | ((with_reducible refine (HL.out _).mono ?_); rintro e w1 ⟨rfl, rfl⟩)
    | fail
  simp only [E1.out, E2.out, E3.out, E4.out, E5.out, E6.out]
  generalize h * 576460752303423488 + l / 32 = U at *
  generalize l % 32 * 134217728 = V at *
  simp only [Hy.out]
  clear E1 E2 E3 E4 E5 E6 HL
  generalize y * 134217728 = Y at *
  obtain ⟨q0, q1, r0, r1, qr, p0, p1⟩ := div_bd hY0 hY1 hU0 hUY
  have F1 : Hid (IntKind.u64.wrap (U.tdiv Y) = U / Y) := Lib.hid (by rw [Int.tdiv_eq_ediv_of_nonneg hU0, IntKind.wrap_u64]; omega)
  have F2 : Hid (IntKind.u64.wrap (U - IntKind.u64.wrap (U / Y * Y)) = U % Y) := Lib.hid (by rw [IntKind.wrap_u64, IntKind.wrap_u64]; omega)
  simp only [F1.out, F2.out]
  have hX0 : 0 ≤ U % Y * 4294967296 + V := by omega
  have hX1 : U % Y * 4294967296 + V < Y * 4294967296 := by omega
  have F3 : Hid (IntKind.u64.wrap (IntKind.u64.wrap (IntKind.u64.wrap (U * 4294967296) + V) - IntKind.u64.wrap (U / Y * (Y * 4294967296))) = U % Y * 4294967296 + V) := Lib.hid (by
    rw [IntKind.wrap_u64, IntKind.wrap_u64, IntKind.wrap_u64, IntKind.wrap_u64, ← Int.mul_assoc]
    omega)
  generalize U / Y = q at *
  generalize U % Y = r at *
  refine wp_loop_rounds 1 ?_
  rw [rounds_succ]
  go_wp2
  simp only [F3.out]
  clear F1 F2 F3 p0 p1 qr hU0 hUY
  generalize r * 4294967296 + V = X at *
  clear r0 r1 hV0 hV1
  obtain ⟨s0, s1, t0, t1, st, z0, z1⟩ := div_bd hY0 hY1 hX0 hX1
  have G1 : Hid (IntKind.u64.wrap (X.tdiv Y) = X / Y) := Lib.hid (by rw [Int.tdiv_eq_ediv_of_nonneg hX0, IntKind.wrap_u64]; omega)
  have G2 : Hid (IntKind.u64.wrap (X - IntKind.u64.wrap (X / Y * Y)) = X % Y) := Lib.hid (by rw [IntKind.wrap_u64, IntKind.wrap_u64]; omega)
  simp only [G1.out, G2.out]
  have G3 : Hid (IntKind.u64.wrap (IntKind.u64.wrap (X * 4294967296) - IntKind.u64.wrap (X / Y * (Y * 4294967296))) = X % Y * 4294967296) := Lib.hid (by
    rw [IntKind.wrap_u64, IntKind.wrap_u64, IntKind.wrap_u64, ← Int.mul_assoc]
    omega)
  have G4 : Hid (IntKind.u64.wrap (IntKind.u64.wrap (IntKind.u64.wrap (X * 4294967296)) - IntKind.u64.wrap (X / Y * (Y * 4294967296))) = X % Y * 4294967296) := Lib.hid (by
    rw [IntKind.wrap_u64, IntKind.wrap_u64, IntKind.wrap_u64, IntKind.wrap_u64, ← Int.mul_assoc]
    omega)
  generalize X / Y = q' at *
  generalize X % Y = r' at *
  clear G1 G2
  refine wp_loop_rounds 1 ?_
  rw [rounds_succ]
  go_wp2
  try simp only [G3.out, G4.out]
  go_ret2
  refine ⟨?_, rfl⟩
  rw [HD1.out, Hm.out]
  simp only [G4.out]
  rfl

set_option maxHeartbeats 3200000 in
set_option maxRecDepth 100000 in
theorem Div64_5 (h l y : Int) (w : World) (h0 : 0 < h) (h1 : h < y) (l0 : 0 ≤ l) (l1 : l < 18446744073709551616) (y0 : 32 ≤ y) (y1 : y < 64) :
    Calls Try.prog 79 #[.int .u64 h, .int .u64 l, .int .u64 y] w fun e w' => e = .returned (.tuple #[.int .u64 ((h * 18446744073709551616 + l) / y), .int .u64 ((h * 18446744073709551616 + l) % y)]) ∧ w = w' := by
  have HL := Lib.hid (fun w => LZ_any y w (by omega) (by omega))
  rw [show lenI y = 6 by unfold lenI; (repeat' split) <;> omega] at HL
  obtain ⟨D1, D2⟩ := div_words (h := h) (l := l) (y := y) (c := 67108864) (R := 64) (by omega) (by omega) (by omega) (by omega)
  rw [show h * (67108864 * 4294967296) = h * 288230376151711744 by omega] at D1 D2
  have E1 : Hid (y * 288230376151711744 / 4294967296 = y * 67108864) := Lib.hid (by omega)
  have E2 : Hid (bits .and .u64 (y * 288230376151711744) 4294967295 = 0) := Lib.hid (and_low32 (by omega) (by omega) (by omega))
  have E3 : Hid (bits .or .u64 (h * 288230376151711744) (l / 64) = h * 288230376151711744 + l / 64) := Lib.hid (or_add_u64 58 (by omega) (by omega) (by omega) (by omega) (by omega) (by omega)).1
  have E4 : Hid (IntKind.u64.wrap (l * 288230376151711744) = l % 64 * 67108864 * 4294967296) := Lib.hid (by rw [IntKind.wrap_u64]; omega)
  have E5 : Hid (l % 64 * 67108864 * 4294967296 / 4294967296 = l % 64 * 67108864) := Lib.hid (by omega)
  have E6 : Hid (bits .and .u64 (l % 64 * 67108864 * 4294967296) 4294967295 = 0) := Lib.hid (and_low32 (by omega) (by omega) (by omega))
  have hU0 : 0 ≤ h * 288230376151711744 + l / 64 := by omega
  have hUY : h * 288230376151711744 + l / 64 < y * 67108864 * 4294967296 := by omega
  have hV0 : 0 ≤ l % 64 * 67108864 := by omega
  have hV1 : l % 64 * 67108864 < 4294967296 := by omega
  have hY0 : 0 < y * 67108864 := by omega
  have hY1 : y * 67108864 ≤ 4294967296 := by omega
  have Hy : Hid (y * 288230376151711744 = y * 67108864 * 4294967296) := Lib.hid (by omega)
  have Hm : Hid ((h * 18446744073709551616 + l) % y = (h * 18446744073709551616 + l) % y * 67108864 * 4294967296 / 288230376151711744) := Lib.hid (by omega)
  rw [D2] at Hm
  have HD1 := Lib.hid D1
  clear D1 D2
  go_enter Try.func79, Try.ntmps79
  go_wp2_with first
    | ((with_reducible refine (HL.out _).mono ?_); rintro e w1 ⟨rfl, rfl⟩)
    | fail
  simp only [E1.out, E2.out, E3.out, E4.out, E5.out, E6.out]
  generalize h * 288230376151711744 + l / 64 = U at *
  generalize l % 64 * 67108864 = V at *
  simp only [Hy.out]
  clear E1 E2 E3 E4 E5 E6 HL
  generalize y * 67108864 = Y at *
  obtain ⟨q0, q1, r0, r1, qr, p0, p1⟩ := div_bd hY0 hY1 hU0 hUY
  have F1 : Hid (IntKind.u64.wrap (U.tdiv Y) = U / Y) := Lib.hid (by rw [Int.tdiv_eq_ediv_of_nonneg hU0, IntKind.wrap_u64]; omega)
  have F2 : Hid (IntKind.u64.wrap (U - IntKind.u64.wrap (U / Y * Y)) = U % Y) := Lib.hid (by rw [IntKind.wrap_u64, IntKind.wrap_u64]; omega)
  simp only [F1.out, F2.out]
  have hX0 : 0 ≤ U % Y * 4294967296 + V := by omega
  have hX1 : U % Y * 4294967296 + V < Y * 4294967296 := by omega
  have F3 : Hid (IntKind.u64.wrap (IntKind.u64.wrap (IntKind.u64.wrap (U * 4294967296) + V) - IntKind.u64.wrap (U / Y * (Y * 4294967296))) = U % Y * 4294967296 + V) := Lib.hid (by
    rw [IntKind.wrap_u64, IntKind.wrap_u64, IntKind.wrap_u64, IntKind.wrap_u64, ← Int.mul_assoc]
    omega)
  generalize U / Y = q at *
  generalize U % Y = r at *
  refine wp_loop_rounds 1 ?_
  rw [rounds_succ]
  go_wp2
  simp only [F3.out]
  clear F1 F2 F3 p0 p1 qr hU0 hUY
  generalize r * 4294967296 + V = X at *
  clear r0 r1 hV0 hV1
  obtain ⟨s0, s1, t0, t1, st, z0, z1⟩ := div_bd hY0 hY1 hX0 hX1
  have G1 : Hid (IntKind.u64.wrap (X.tdiv Y) = X / Y) := Lib.hid (by rw [Int.tdiv_eq_ediv_of_nonneg hX0, IntKind.wrap_u64]; omega)
  have G2 : Hid (IntKind.u64.wrap (X - IntKind.u64.wrap (X / Y * Y)) = X % Y) := Lib.hid (by rw [IntKind.wrap_u64, IntKind.wrap_u64]; omega)
  simp only [G1.out, G2.out]
  have G3 : Hid (IntKind.u64.wrap (IntKind.u64.wrap (X * 4294967296) - IntKind.u64.wrap (X / Y * (Y * 4294967296))) = X % Y * 4294967296) := Lib.hid (by
    rw [IntKind.wrap_u64, IntKind.wrap_u64, IntKind.wrap_u64, ← Int.mul_assoc]
    omega)
  have G4 : Hid (IntKind.u64.wrap (IntKind.u64.wrap (IntKind.u64.wrap (X * 4294967296)) - IntKind.u64.wrap (X / Y * (Y * 4294967296))) = X % Y * 4294967296) := Lib.hid (by
    rw [IntKind.wrap_u64, IntKind.wrap_u64, IntKind.wrap_u64, IntKind.wrap_u64, ← Int.mul_assoc]
    omega)
  generalize X / Y = q' at *
  generalize X % Y = r' at *
  clear G1 G2
  refine wp_loop_rounds 1 ?_
  rw [rounds_succ]
  go_wp2
  try simp only [G3.out, G4.out]
  go_ret2
  refine ⟨?_, rfl⟩
  rw [HD1.out, Hm.out]
  simp only [G4.out]
  rfl

set_option maxHeartbeats 3200000 in
set_option maxRecDepth 100000 in
theorem Div64_6 (h l y : Int) (w : World) (h0 : 0 < h) (h1 : h < y) (l0 : 0 ≤ l) (l1 : l < 18446744073709551616) (y0 : 64 ≤ y) (y1 : y < 128) :
    Calls Try.prog 79 #[.int .u64 h, .int .u64 l, .int .u64 y] w fun e w' => e = .returned (.tuple #[.int .u64 ((h * 18446744073709551616 + l) / y), .int .u64 ((h * 18446744073709551616 + l) % y)]) ∧ w = w' := by
  have HL := Lib.hid (fun w => LZ_any y w (by omega) (by omega))
  rw [show lenI y = 7 by unfold lenI; (repeat' split) <;> omega] at HL
  obtain ⟨D1, D2⟩ := div_words (h := h) (l := l) (y := y) (c := 33554432) (R := 128) (by omega) (by omega) (by omega) (by omega)
  rw [show h * (33554432 * 4294967296) = h * 144115188075855872 by omega] at D1 D2
  have E1 : Hid (y * 144115188075855872 / 4294967296 = y * 33554432) := Lib.hid (by omega)
  have E2 : Hid (bits .and .u64 (y * 144115188075855872) 4294967295 = 0) := Lib.hid (and_low32 (by omega) (by omega) (by omega))
  have E3 : Hid (bits .or .u64 (h * 144115188075855872) (l / 128) = h * 144115188075855872 + l / 128) := Lib.hid (or_add_u64 57 (by omega) (by omega) (by omega) (by omega) (by omega) (by omega)).1
  have E4 : Hid (IntKind.u64.wrap (l * 144115188075855872) = l % 128 * 33554432 * 4294967296) := Lib.hid (by rw [IntKind.wrap_u64]; omega)
  have E5 : Hid (l % 128 * 33554432 * 4294967296 / 4294967296 = l % 128 * 33554432) := Lib.hid (by omega)
  have E6 : Hid (bits .and .u64 (l % 128 * 33554432 * 4294967296) 4294967295 = 0) := Lib.hid (and_low32 (by omega) (by omega) (by omega))
  have hU0 : 0 ≤ h * 144115188075855872 + l / 128 := by omega
  have hUY : h * 144115188075855872 + l / 128 < y * 33554432 * 4294967296 := by omega
  have hV0 : 0 ≤ l % 128 * 33554432 := by omega
  have hV1 : l % 128 * 33554432 < 4294967296 := by omega
  have hY0 : 0 < y * 33554432 := by omega
  have hY1 : y * 33554432 ≤ 4294967296 := by omega
  have Hy : Hid (y * 144115188075855872 = y * 33554432 * 4294967296) := Lib.hid (by omega)
  have Hm : Hid ((h * 18446744073709551616 + l) % y = (h * 18446744073709551616 + l) % y * 33554432 * 4294967296 / 144115188075855872) := Lib.hid (by omega)
  rw [D2] at Hm
  have HD1 := Lib.hid D1
  clear D1 D2
  go_enter Try.func79, Try.ntmps79
  go_wp2_with first
    | ((with_reducible refine (HL.out _).mono ?_); rintro e w1 ⟨rfl, rfl⟩)
    | fail
  simp only [E1.out, E2.out, E3.out, E4.out, E5.out, E6.out]
  generalize h * 144115188075855872 + l / 128 = U at *
  generalize l % 128 * 33554432 = V at *
  simp only [Hy.out]
  clear E1 E2 E3 E4 E5 E6 HL
  generalize y * 33554432 = Y at *
  obtain ⟨q0, q1, r0, r1, qr, p0, p1⟩ := div_bd hY0 hY1 hU0 hUY
  have F1 : Hid (IntKind.u64.wrap (U.tdiv Y) = U / Y) := Lib.hid (by rw [Int.tdiv_eq_ediv_of_nonneg hU0, IntKind.wrap_u64]; omega)
  have F2 : Hid (IntKind.u64.wrap (U - IntKind.u64.wrap (U / Y * Y)) = U % Y) := Lib.hid (by rw [IntKind.wrap_u64, IntKind.wrap_u64]; omega)
  simp only [F1.out, F2.out]
  have hX0 : 0 ≤ U % Y * 4294967296 + V := by omega
  have hX1 : U % Y * 4294967296 + V < Y * 4294967296 := by omega
  have F3 : Hid (IntKind.u64.wrap (IntKind.u64.wrap (IntKind.u64.wrap (U * 4294967296) + V) - IntKind.u64.wrap (U / Y * (Y * 4294967296))) = U % Y * 4294967296 + V) := Lib.hid (by
    rw [IntKind.wrap_u64, IntKind.wrap_u64, IntKind.wrap_u64, IntKind.wrap_u64, ← Int.mul_assoc]
    omega)
  generalize U / Y = q at *
  generalize U % Y = r at *
  refine wp_loop_rounds 1 ?_
  rw [rounds_succ]
  go_wp2
  simp only [F3.out]
  clear F1 F2 F3 p0 p1 qr hU0 hUY
  generalize r * 4294967296 + V = X at *
  clear r0 r1 hV0 hV1
  obtain ⟨s0, s1, t0, t1, st, z0, z1⟩ := div_bd hY0 hY1 hX0 hX1
  have G1 : Hid (IntKind.u64.wrap (X.tdiv Y) = X / Y) := Lib.hid (by rw [Int.tdiv_eq_ediv_of_nonneg hX0, IntKind.wrap_u64]; omega)
  have G2 : Hid (IntKind.u64.wrap (X - IntKind.u64.wrap (X / Y * Y)) = X % Y) := Lib.hid (by rw [IntKind.wrap_u64, IntKind.wrap_u64]; omega)
  simp only [G1.out, G2.out]
  have G3 : Hid (IntKind.u64.wrap (IntKind.u64.wrap (X * 4294967296) - IntKind.u64.wrap (X / Y * (Y * 4294967296))) = X % Y * 4294967296) := Lib.hid (by
    rw [IntKind.wrap_u64, IntKind.wrap_u64, IntKind.wrap_u64, ← Int.mul_assoc]
    omega)
  have G4 : Hid (IntKind.u64.wrap (IntKind.u64.wrap (IntKind.u64.wrap (X * 4294967296)) - IntKind.u64.wrap (X / Y * (Y * 4294967296))) = X % Y * 4294967296) := Lib.hid (by
    rw [IntKind.wrap_u64, IntKind.wrap_u64, IntKind.wrap_u64, IntKind.wrap_u64, ← Int.mul_assoc]
    omega)
  generalize X / Y = q' at *
  generalize X % Y = r' at *
  clear G1 G2
  refine wp_loop_rounds 1 ?_
  rw [rounds_succ]
  go_wp2
  try simp only [G3.out, G4.out]
  go_ret2
  refine ⟨?_, rfl⟩
  rw [HD1.out, Hm.out]
  simp only [G4.out]
  rfl

set_option maxHeartbeats 1600000 in
set_option maxRecDepth 100000 in
theorem Div64_z (l y : Int) (w : World) (h1 : 0 < y) (l0 : 0 ≤ l) (l1 : l < 18446744073709551616) (y1 : y < 18446744073709551616) :
    Calls Try.prog 79 #[.int .u64 0, .int .u64 l, .int .u64 y] w fun e w' => e = .returned (.tuple #[.int .u64 (l / y), .int .u64 (l % y)]) ∧ Below w.heap.size w w' := by
  have e1 : Hid (IntKind.u64.wrap (l.tdiv y) = l / y) := Lib.hid (by
    have h5 := Int.ediv_nonneg l0 (Int.le_of_lt h1)
    have h6 : l / y ≤ l := Int.ediv_le_self _ l0
    rw [Int.tdiv_eq_ediv_of_nonneg l0, IntKind.wrap_u64]; omega)
  have e2 : Hid (IntKind.u64.wrap (l.tmod y) = l % y) := Lib.hid (by
    have h5 := Int.emod_nonneg l (b := y) (by omega)
    have h6 := Int.emod_lt_of_pos l h1
    rw [Int.tmod_eq_emod_of_nonneg l0, IntKind.wrap_u64]; omega)
  go_enter Try.func79, Try.ntmps79
  go_wp2
  go_region
  all_goals go_wp2
  all_goals go_ret2
  all_goals (refine ⟨?_, by (repeat first | assumption | exact Below.refl _ _ | refine Below.drew ?_ | refine Below.drewN ?_ _ | refine Below.alloc ?_ (by (first | omega | (simp; done) | (simp; omega))) _ | refine Below.setCell ?_ (by (first | omega | (simp; done) | (simp; omega))) _ | refine Below.trans ?_ (Below.mono (by assumption) (by (first | omega | (simp; done) | (simp; omega)))))⟩; simp only [e1.out, e2.out]; rfl)

theorem Div64_any (h l y : Int) (w : World) (h0 : 0 ≤ h) (h1 : h < y) (l0 : 0 ≤ l) (l1 : l < 18446744073709551616) (y1 : y ≤ 64) :
    Calls Try.prog 79 #[.int .u64 h, .int .u64 l, .int .u64 y] w fun e w' => e = .returned (.tuple #[.int .u64 ((h * 18446744073709551616 + l) / y), .int .u64 ((h * 18446744073709551616 + l) % y)]) ∧ Below w.heap.size w w' := by
  by_cases hh : h = 0
  · subst hh
    rw [Int.zero_mul, Int.zero_add]
    exact Div64_z l y w h1 l0 l1 (by omega)
  by_cases k1 : y < 4
  · exact (Div64_1 h l y w (by omega) h1 l0 l1 (by omega) k1).mono fun e w' h => ⟨h.1, by rw [h.2]; exact Below.refl _ _⟩
  by_cases k2 : y < 8
  · exact (Div64_2 h l y w (by omega) h1 l0 l1 (by omega) k2).mono fun e w' h => ⟨h.1, by rw [h.2]; exact Below.refl _ _⟩
  by_cases k3 : y < 16
  · exact (Div64_3 h l y w (by omega) h1 l0 l1 (by omega) k3).mono fun e w' h => ⟨h.1, by rw [h.2]; exact Below.refl _ _⟩
  by_cases k4 : y < 32
  · exact (Div64_4 h l y w (by omega) h1 l0 l1 (by omega) k4).mono fun e w' h => ⟨h.1, by rw [h.2]; exact Below.refl _ _⟩
  by_cases k5 : y < 64
  · exact (Div64_5 h l y w (by omega) h1 l0 l1 (by omega) k5).mono fun e w' h => ⟨h.1, by rw [h.2]; exact Below.refl _ _⟩
  · exact (Div64_6 h l y w (by omega) h1 l0 l1 (by omega) (by omega)).mono fun e w' h => ⟨h.1, by rw [h.2]; exact Below.refl _ _⟩
end Go.Proofs.Ytkmfdggodinjaaa
