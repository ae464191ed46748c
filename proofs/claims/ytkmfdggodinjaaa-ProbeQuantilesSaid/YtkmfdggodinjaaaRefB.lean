/-
  regattaref02: a number without its sign.
-/
import Derived.Test.YtkmfdggodinjaaaRefA
namespace Go.Proofs.Ytkmfdggodinjaaa
open Go.RowKit
set_option linter.unusedVariables false
set_option linter.unusedSimpArgs false

/-- How far a number is from 0. -/
def absN (a : Int) : Int := if a < 0 then -a else a
theorem absN_bd {a : Int} (h : I64 a) : 0 ≤ absN a ∧ absN a ≤ 9223372036854775808 := by unfold I64 at h; unfold absN; split <;> omega

set_option maxHeartbeats 400000 in
theorem bSize_any (a : Int) (w : World) (h : I64 a) :
    Calls Try.prog 60 #[.int .i64 a] w fun e w' => e = .returned (.int .u64 (absN a)) ∧ w = w' := by
  by_cases h0 : a < 0
  · have e : absN a = IntKind.u64.wrap (-IntKind.u64.wrap a) := by
      unfold I64 at h; unfold absN; rw [if_pos h0, IntKind.wrap_u64, IntKind.wrap_u64]; omega
    rw [e]
    clear e
    go_enter Try.func60, Try.ntmps60
    go_wp2
    go_ret
    exact ⟨rfl, rfl⟩
  · have e : absN a = IntKind.u64.wrap a := by
      unfold I64 at h; unfold absN; rw [if_neg h0, IntKind.wrap_u64]; omega
    rw [e]
    clear e
    go_enter Try.func60, Try.ntmps60
    go_wp2
    go_ret
    exact ⟨rfl, rfl⟩

theorem one_dg0 {a : Int} (h0 : 0 ≤ a) (h1 : a ≤ 18446744073709551615) : BG (a * 1) = .agg #[.int .u64 (a % 4294967296), .int .u64 (a / 4294967296), .int .u64 0, .int .u64 0, .int .u64 0, .int .u64 0] := by
  have e : ∀ i, i < 6 → dg (a * 1) i = ([(a % 4294967296), (a / 4294967296), 0, 0, 0, 0] : List Int)[i]?.getD 0 := fun i hi => by
    match i, hi with
    | 0, _ => simp [dg, qd] <;> omega
    | 1, _ => simp [dg, qd] <;> omega
    | 2, _ => simp [dg, qd] <;> omega
    | 3, _ => simp [dg, qd] <;> omega
    | 4, _ => simp [dg, qd] <;> omega
    | 5, _ => simp [dg, qd] <;> omega
  simp only [BG]
  rw [e 0 (by omega), e 1 (by omega), e 2 (by omega), e 3 (by omega), e 4 (by omega), e 5 (by omega)]
  rfl

theorem one_dg1 {a : Int} (h0 : 0 ≤ a) (h1 : a ≤ 18446744073709551615) : BG (a * 4294967296) = .agg #[.int .u64 0, .int .u64 (a % 4294967296), .int .u64 (a / 4294967296), .int .u64 0, .int .u64 0, .int .u64 0] := by
  have e : ∀ i, i < 6 → dg (a * 4294967296) i = ([0, (a % 4294967296), (a / 4294967296), 0, 0, 0] : List Int)[i]?.getD 0 := fun i hi => by
    match i, hi with
    | 0, _ => simp [dg, qd] <;> omega
    | 1, _ => simp [dg, qd] <;> omega
    | 2, _ => simp [dg, qd] <;> omega
    | 3, _ => simp [dg, qd] <;> omega
    | 4, _ => simp [dg, qd] <;> omega
    | 5, _ => simp [dg, qd] <;> omega
  simp only [BG]
  rw [e 0 (by omega), e 1 (by omega), e 2 (by omega), e 3 (by omega), e 4 (by omega), e 5 (by omega)]
  rfl

theorem one_dg2 {a : Int} (h0 : 0 ≤ a) (h1 : a ≤ 18446744073709551615) : BG (a * 18446744073709551616) = .agg #[.int .u64 0, .int .u64 0, .int .u64 (a % 4294967296), .int .u64 (a / 4294967296), .int .u64 0, .int .u64 0] := by
  have e : ∀ i, i < 6 → dg (a * 18446744073709551616) i = ([0, 0, (a % 4294967296), (a / 4294967296), 0, 0] : List Int)[i]?.getD 0 := fun i hi => by
    match i, hi with
    | 0, _ => simp [dg, qd] <;> omega
    | 1, _ => simp [dg, qd] <;> omega
    | 2, _ => simp [dg, qd] <;> omega
    | 3, _ => simp [dg, qd] <;> omega
    | 4, _ => simp [dg, qd] <;> omega
    | 5, _ => simp [dg, qd] <;> omega
  simp only [BG]
  rw [e 0 (by omega), e 1 (by omega), e 2 (by omega), e 3 (by omega), e 4 (by omega), e 5 (by omega)]
  rfl

set_option maxHeartbeats 800000 in
theorem bOne0_any (a : Int) (w : World) (h0 : 0 ≤ a) (h1 : a ≤ 18446744073709551615) :
    Calls Try.prog 62 #[.int .u64 a, .int .i64 0] w fun e w' => e = .returned (BG (a * 1)) ∧ Below w.heap.size w w' := by
  have hm : a.tmod 4294967296 = a % 4294967296 := Int.tmod_eq_emod_of_nonneg h0
  have hd : a.tdiv 4294967296 = a / 4294967296 := Int.tdiv_eq_ediv_of_nonneg h0
  have hwm : IntKind.u64.wrap (a % 4294967296) = a % 4294967296 := by rw [IntKind.wrap_u64]; omega
  have hwd : IntKind.u64.wrap (a / 4294967296) = a / 4294967296 := by rw [IntKind.wrap_u64]; omega
  have HB := Lib.hid (one_dg0 h0 h1)
  rw [HB.out]
  clear HB
  go_enter Try.func62, Try.ntmps62
  go_wp2
  exact bodyPost_ret (v := .agg #[.int .u64 (a % 4294967296), .int .u64 (a / 4294967296), .int .u64 0, .int .u64 0, .int .u64 0, .int .u64 0]) (by simp [results, Try.results62, go_sem]) rfl ⟨rfl, by
    (repeat first | with_reducible exact Below.refl _ _ | with_reducible refine Below.drew ?_ | with_reducible refine Below.drewN ?_ _ | with_reducible refine Below.alloc ?_ ?_ _ | with_reducible refine Below.setCell ?_ ?_ _)
    all_goals first | exact Nat.le_refl _ | (simp; done) | (simp; omega)⟩

set_option maxHeartbeats 800000 in
theorem bOne1_any (a : Int) (w : World) (h0 : 0 ≤ a) (h1 : a ≤ 18446744073709551615) :
    Calls Try.prog 62 #[.int .u64 a, .int .i64 1] w fun e w' => e = .returned (BG (a * 4294967296)) ∧ Below w.heap.size w w' := by
  have hm : a.tmod 4294967296 = a % 4294967296 := Int.tmod_eq_emod_of_nonneg h0
  have hd : a.tdiv 4294967296 = a / 4294967296 := Int.tdiv_eq_ediv_of_nonneg h0
  have hwm : IntKind.u64.wrap (a % 4294967296) = a % 4294967296 := by rw [IntKind.wrap_u64]; omega
  have hwd : IntKind.u64.wrap (a / 4294967296) = a / 4294967296 := by rw [IntKind.wrap_u64]; omega
  have HB := Lib.hid (one_dg1 h0 h1)
  rw [HB.out]
  clear HB
  go_enter Try.func62, Try.ntmps62
  go_wp2
  exact bodyPost_ret (v := .agg #[.int .u64 0, .int .u64 (a % 4294967296), .int .u64 (a / 4294967296), .int .u64 0, .int .u64 0, .int .u64 0]) (by simp [results, Try.results62, go_sem]) rfl ⟨rfl, by
    (repeat first | with_reducible exact Below.refl _ _ | with_reducible refine Below.drew ?_ | with_reducible refine Below.drewN ?_ _ | with_reducible refine Below.alloc ?_ ?_ _ | with_reducible refine Below.setCell ?_ ?_ _)
    all_goals first | exact Nat.le_refl _ | (simp; done) | (simp; omega)⟩

set_option maxHeartbeats 800000 in
theorem bOne2_any (a : Int) (w : World) (h0 : 0 ≤ a) (h1 : a ≤ 18446744073709551615) :
    Calls Try.prog 62 #[.int .u64 a, .int .i64 2] w fun e w' => e = .returned (BG (a * 18446744073709551616)) ∧ Below w.heap.size w w' := by
  have hm : a.tmod 4294967296 = a % 4294967296 := Int.tmod_eq_emod_of_nonneg h0
  have hd : a.tdiv 4294967296 = a / 4294967296 := Int.tdiv_eq_ediv_of_nonneg h0
  have hwm : IntKind.u64.wrap (a % 4294967296) = a % 4294967296 := by rw [IntKind.wrap_u64]; omega
  have hwd : IntKind.u64.wrap (a / 4294967296) = a / 4294967296 := by rw [IntKind.wrap_u64]; omega
  have HB := Lib.hid (one_dg2 h0 h1)
  rw [HB.out]
  clear HB
  go_enter Try.func62, Try.ntmps62
  go_wp2
  exact bodyPost_ret (v := .agg #[.int .u64 0, .int .u64 0, .int .u64 (a % 4294967296), .int .u64 (a / 4294967296), .int .u64 0, .int .u64 0]) (by simp [results, Try.results62, go_sem]) rfl ⟨rfl, by
    (repeat first | with_reducible exact Below.refl _ _ | with_reducible refine Below.drew ?_ | with_reducible refine Below.drewN ?_ _ | with_reducible refine Below.alloc ?_ ?_ _ | with_reducible refine Below.setCell ?_ ?_ _)
    all_goals first | exact Nat.le_refl _ | (simp; done) | (simp; omega)⟩
end Go.Proofs.Ytkmfdggodinjaaa
