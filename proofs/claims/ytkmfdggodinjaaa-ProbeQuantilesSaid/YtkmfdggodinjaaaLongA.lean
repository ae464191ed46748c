/-
  Layer wide: long numbers: opened, shut, extended.
-/
import Derived.Test.YtkmfdggodinjaaaWideB
namespace Go.Proofs.Ytkmfdggodinjaaa
open Go.RowKit
set_option linter.unusedVariables false
set_option linter.unusedSimpArgs false
set_option maxRecDepth 8000

/-- The words of a long number, the lowest first. -/
def x0 (v : Int) : Int := v % 18446744073709551616
def x1 (v : Int) : Int := v / 18446744073709551616 % 18446744073709551616
def x2 (v : Int) : Int := v / 340282366920938463463374607431768211456 % 18446744073709551616
/-- The highest as one with a sign. -/
def x2s (v : Int) : Int := wrap64 (v / 340282366920938463463374607431768211456)
/-- Its form as words, and as a long number. -/
abbrev WV (v : Int) : Value := .agg #[.int .u64 (x0 v), .int .u64 (x1 v), .int .u64 (x2 v)]
abbrev LG (v : Int) : Value := .agg #[.int .i64 (x2s v), .int .u64 (x1 v), .int .u64 (x0 v)]

theorem x0_bd (v : Int) : 0 ≤ x0 v ∧ x0 v ≤ 18446744073709551615 := by unfold x0; omega
theorem x1_bd (v : Int) : 0 ≤ x1 v ∧ x1 v ≤ 18446744073709551615 := by unfold x1; omega
theorem x2_bd (v : Int) : 0 ≤ x2 v ∧ x2 v ≤ 18446744073709551615 := by unfold x2; omega
theorem x2_u (v : Int) : IntKind.u64.wrap (x2s v) = x2 v := by rw [IntKind.wrap_u64]; unfold x2s x2 wrap64; omega
theorem x2_s (v : Int) : wrap64 (x2 v) = x2s v := by unfold x2s x2 wrap64; omega

set_option maxRecDepth 100000 in
set_option maxHeartbeats 800000 in
theorem open_any (v : Int) (w : World) :
    Calls Try.prog 83 #[LG v] w fun e w' => e = .returned (WV v) ∧ Below w.heap.size w w' := by
  have HC := Lib.hid (x2_u v)
  unfold LG WV
  go_enter Try.func83, Try.ntmps83
  go_wp2
  rw [HC.out]
  exact bodyPost_ret (v := .agg #[.int .u64 (x0 v), .int .u64 (x1 v), .int .u64 (x2 v)]) (by simp [results, Try.results83, go_sem]) rfl ⟨rfl, by (repeat first | assumption | exact Below.refl _ _ | refine Below.drew ?_ | refine Below.drewN ?_ _ | refine Below.alloc ?_ (by (first | omega | (simp; done) | (simp; omega))) _ | refine Below.setCell ?_ (by (first | omega | (simp; done) | (simp; omega))) _ | refine Below.trans ?_ (Below.mono (by assumption) (by (first | omega | (simp; done) | (simp; omega)))))⟩

set_option maxRecDepth 100000 in
set_option maxHeartbeats 800000 in
theorem shut_any (v : Int) (w : World) :
    Calls Try.prog 109 #[WV v] w fun e w' => e = .returned (LG v) ∧ Below w.heap.size w w' := by
  have HC := Lib.hid (x2_s v)
  unfold LG WV
  go_enter Try.func109, Try.ntmps109
  go_wp2
  rw [HC.out]
  exact bodyPost_ret (v := .agg #[.int .i64 (x2s v), .int .u64 (x1 v), .int .u64 (x0 v)]) (by simp [results, Try.results109, go_sem]) rfl ⟨rfl, by (repeat first | assumption | exact Below.refl _ _ | refine Below.drew ?_ | refine Below.drewN ?_ _ | refine Below.alloc ?_ (by (first | omega | (simp; done) | (simp; omega))) _ | refine Below.setCell ?_ (by (first | omega | (simp; done) | (simp; omega))) _ | refine Below.trans ?_ (Below.mono (by assumption) (by (first | omega | (simp; done) | (simp; omega)))))⟩

set_option maxRecDepth 100000 in
set_option maxHeartbeats 800000 in
theorem below_any (v : Int) (w : World) :
    Calls Try.prog 84 #[WV v] w fun e w' => e = .returned (.bool (decide (x2s v < 0))) ∧ Below w.heap.size w w' := by
  have HC := Lib.hid (x2_s v)
  unfold WV
  go_enter Try.func84, Try.ntmps84
  go_wp2
  go_ret
  exact ⟨by rw [HC.out]; rfl, by (repeat first | assumption | exact Below.refl _ _ | refine Below.drew ?_ | refine Below.drewN ?_ _ | refine Below.alloc ?_ (by (first | omega | (simp; done) | (simp; omega))) _ | refine Below.setCell ?_ (by (first | omega | (simp; done) | (simp; omega))) _ | refine Below.trans ?_ (Below.mono (by assumption) (by (first | omega | (simp; done) | (simp; omega)))))⟩

theorem ext_2 {a : Int} (h : I128 a) : whi a / 9223372036854775808 = x2s a := by rw [whi_eq h]; unfold I128 at h; unfold x2s wrap64; omega
theorem ext_1 {a : Int} (h : I128 a) : IntKind.u64.wrap (whi a) = x1 a := by rw [whi_eq h, IntKind.wrap_u64]; rfl

set_option maxRecDepth 100000 in
set_option maxHeartbeats 800000 in
theorem Extend_any (a : Int) (w : World) (h : I128 a) :
    Calls Try.prog 87 #[W a] w fun e w' => e = .returned (LG a) ∧ Below w.heap.size w w' := by
  have H2 := Lib.hid (ext_2 h)
  have H1 := Lib.hid (ext_1 h)
  clear h
  unfold LG W
  go_enter Try.func87, Try.ntmps87
  go_wp2
  rw [H2.out, H1.out]
  exact bodyPost_ret (v := .agg #[.int .i64 (x2s a), .int .u64 (x1 a), .int .u64 (wlo a)]) (by simp [results, Try.results87, go_sem]) rfl ⟨rfl, by (repeat first | assumption | exact Below.refl _ _ | refine Below.drew ?_ | refine Below.drewN ?_ _ | refine Below.alloc ?_ (by (first | omega | (simp; done) | (simp; omega))) _ | refine Below.setCell ?_ (by (first | omega | (simp; done) | (simp; omega))) _ | refine Below.trans ?_ (Below.mono (by assumption) (by (first | omega | (simp; done) | (simp; omega)))))⟩
end Go.Proofs.Ytkmfdggodinjaaa
