/-
  Layer wide: long numbers clamped, shifted down, looked at.
-/
import Derived.Test.YtkmfdggodinjaaaLongB
namespace Go.Proofs.Ytkmfdggodinjaaa
open Go.RowKit
set_option linter.unusedVariables false
set_option linter.unusedSimpArgs false
set_option maxRecDepth 8000

set_option maxRecDepth 100000 in
set_option maxHeartbeats 1600000 in
theorem clampL_any (v : Int) (w : World) (h : I192 v) :
    Calls Try.prog 118 #[WV v] w fun e w' => e = .returned (Held v) ∧ Below w.heap.size w w' := by
  by_cases h2 : I64 v
  · obtain ⟨e1, e2, e3, e4⟩ := clampL_in h h2
    have E1 : (x1 v == IntKind.u64.wrap (wrap64 (x0 v) / 9223372036854775808)) = true := by unfold f0 at e1; simpa using e1
    have E2 : (x2 v == IntKind.u64.wrap (wrap64 (x0 v) / 9223372036854775808)) = true := by unfold f0 at e2; simpa using e2
    unfold Held WV
    rw [e4, ← e3]
    clear h h2 e1 e2 e3 e4
    go_enter Try.func118, Try.ntmps118
    go_wp2
    go_ret2
    exact ⟨rfl, by (repeat first | assumption | exact Below.refl _ _ | refine Below.drew ?_ | refine Below.drewN ?_ _ | refine Below.alloc ?_ (by (first | omega | (simp; done) | (simp; omega))) _ | refine Below.setCell ?_ (by (first | omega | (simp; done) | (simp; omega))) _ | refine Below.trans ?_ (Below.mono (by assumption) (by (first | omega | (simp; done) | (simp; omega)))))⟩
  · have HB := Lib.hid (fun w => below_any v w)
    have hout := clampL_out h h2
    by_cases h3 : x2s v < 0
    · obtain ⟨e1, e2⟩ := clampL_low h h2 h3
      have h3' : decide (x2s v < 0) = true := by simpa using h3
      rw [h3'] at HB
      by_cases h4 : x1 v = f0 v
      · have h5 : ¬ x2 v = f0 v := fun e => hout ⟨h4, e⟩
        have E1 : (x1 v == IntKind.u64.wrap (wrap64 (x0 v) / 9223372036854775808)) = true := by unfold f0 at h4; simpa using h4
        have E2 : (x2 v == IntKind.u64.wrap (wrap64 (x0 v) / 9223372036854775808)) = false := by unfold f0 at h5; simpa using h5
        unfold Held WV at *
        rw [e1, e2]
        clear h h2 h3 h4 h5 e1 e2 hout h3'
        go_enter Try.func118, Try.ntmps118
        go_wp2_with first
          | ((with_reducible refine (HB.out _).mono ?_); rintro e w1 ⟨rfl, hb1⟩; have z1 := hb1.size)
          | fail
        go_ret2
        exact ⟨rfl, by (repeat first | assumption | exact Below.refl _ _ | refine Below.drew ?_ | refine Below.drewN ?_ _ | refine Below.alloc ?_ (by (first | omega | (simp; done) | (simp; omega))) _ | refine Below.setCell ?_ (by (first | omega | (simp; done) | (simp; omega))) _ | refine Below.trans ?_ (Below.mono (by assumption) (by (first | omega | (simp; done) | (simp; omega)))))⟩
      · have E1 : (x1 v == IntKind.u64.wrap (wrap64 (x0 v) / 9223372036854775808)) = false := by unfold f0 at h4; simpa using h4
        unfold Held WV at *
        rw [e1, e2]
        clear h h2 h3 h4 e1 e2 hout h3'
        go_enter Try.func118, Try.ntmps118
        go_wp2_with first
          | ((with_reducible refine (HB.out _).mono ?_); rintro e w1 ⟨rfl, hb1⟩; have z1 := hb1.size)
          | fail
        go_ret2
        exact ⟨rfl, by (repeat first | assumption | exact Below.refl _ _ | refine Below.drew ?_ | refine Below.drewN ?_ _ | refine Below.alloc ?_ (by (first | omega | (simp; done) | (simp; omega))) _ | refine Below.setCell ?_ (by (first | omega | (simp; done) | (simp; omega))) _ | refine Below.trans ?_ (Below.mono (by assumption) (by (first | omega | (simp; done) | (simp; omega)))))⟩
    · obtain ⟨e1, e2⟩ := clampL_high h h2 h3
      have h3' : decide (x2s v < 0) = false := by simpa using h3
      rw [h3'] at HB
      by_cases h4 : x1 v = f0 v
      · have h5 : ¬ x2 v = f0 v := fun e => hout ⟨h4, e⟩
        have E1 : (x1 v == IntKind.u64.wrap (wrap64 (x0 v) / 9223372036854775808)) = true := by unfold f0 at h4; simpa using h4
        have E2 : (x2 v == IntKind.u64.wrap (wrap64 (x0 v) / 9223372036854775808)) = false := by unfold f0 at h5; simpa using h5
        unfold Held WV at *
        rw [e1, e2]
        clear h h2 h3 h4 h5 e1 e2 hout h3'
        go_enter Try.func118, Try.ntmps118
        go_wp2_with first
          | ((with_reducible refine (HB.out _).mono ?_); rintro e w1 ⟨rfl, hb1⟩; have z1 := hb1.size)
          | fail
        go_ret2
        exact ⟨rfl, by (repeat first | assumption | exact Below.refl _ _ | refine Below.drew ?_ | refine Below.drewN ?_ _ | refine Below.alloc ?_ (by (first | omega | (simp; done) | (simp; omega))) _ | refine Below.setCell ?_ (by (first | omega | (simp; done) | (simp; omega))) _ | refine Below.trans ?_ (Below.mono (by assumption) (by (first | omega | (simp; done) | (simp; omega)))))⟩
      · have E1 : (x1 v == IntKind.u64.wrap (wrap64 (x0 v) / 9223372036854775808)) = false := by unfold f0 at h4; simpa using h4
        unfold Held WV at *
        rw [e1, e2]
        clear h h2 h3 h4 e1 e2 hout h3'
        go_enter Try.func118, Try.ntmps118
        go_wp2_with first
          | ((with_reducible refine (HB.out _).mono ?_); rintro e w1 ⟨rfl, hb1⟩; have z1 := hb1.size)
          | fail
        go_ret2
        exact ⟨rfl, by (repeat first | assumption | exact Below.refl _ _ | refine Below.drew ?_ | refine Below.drewN ?_ _ | refine Below.alloc ?_ (by (first | omega | (simp; done) | (simp; omega))) _ | refine Below.setCell ?_ (by (first | omega | (simp; done) | (simp; omega))) _ | refine Below.trans ?_ (Below.mono (by assumption) (by (first | omega | (simp; done) | (simp; omega)))))⟩

set_option maxRecDepth 100000 in
set_option maxHeartbeats 1600000 in
theorem down32_any (v : Int) (w : World) (h : I192 v) :
    Calls Try.prog 119 #[WV v, .int .i64 32] w fun e w' => e = .returned (WV (v / 4294967296)) ∧ Below w.heap.size w w' := by
  have H0 := Lib.hid (down32_0 v)
  have H1 := Lib.hid (down32_1 v)
  have H2 := Lib.hid (down32_2 h)
  unfold fillI at H2
  rw [← x2_s] at H2
  unfold WV
  clear h
  go_enter Try.func119, Try.ntmps119
  go_wp2
  refine wp_loop_rounds 4 ?_
  rw [rounds_succ]
  go_wp2
  go_region
  rw [H0.out]
  all_goals go_wp2
  all_goals rw [rounds_succ]
  all_goals go_wp2
  all_goals go_region
  rw [H1.out]
  all_goals go_wp2
  all_goals rw [rounds_succ]
  all_goals go_wp2
  all_goals go_region
  rw [H2.out]
  all_goals go_wp2
  all_goals rw [rounds_succ]
  all_goals go_wp2
  all_goals exact bodyPost_ret (v := .agg #[.int .u64 (x0 (v / 4294967296)), .int .u64 (x1 (v / 4294967296)), .int .u64 (x2 (v / 4294967296))]) (by simp [results, Try.results119, go_sem]) rfl ⟨rfl, by (repeat first | assumption | exact Below.refl _ _ | refine Below.drew ?_ | refine Below.drewN ?_ _ | refine Below.alloc ?_ (by (first | omega | (simp; done) | (simp; omega))) _ | refine Below.setCell ?_ (by (first | omega | (simp; done) | (simp; omega))) _ | refine Below.trans ?_ (Below.mono (by assumption) (by (first | omega | (simp; done) | (simp; omega)))))⟩

set_option maxRecDepth 100000 in
set_option maxHeartbeats 1600000 in
theorem down33_any (v : Int) (w : World) (h : I192 v) :
    Calls Try.prog 119 #[WV v, .int .i64 33] w fun e w' => e = .returned (WV (v / 8589934592)) ∧ Below w.heap.size w w' := by
  have H0 := Lib.hid (down33_0 v)
  have H1 := Lib.hid (down33_1 v)
  have H2 := Lib.hid (down33_2 h)
  unfold fillI at H2
  rw [← x2_s] at H2
  unfold WV
  clear h
  go_enter Try.func119, Try.ntmps119
  go_wp2
  refine wp_loop_rounds 4 ?_
  rw [rounds_succ]
  go_wp2
  go_region
  rw [H0.out]
  all_goals go_wp2
  all_goals rw [rounds_succ]
  all_goals go_wp2
  all_goals go_region
  rw [H1.out]
  all_goals go_wp2
  all_goals rw [rounds_succ]
  all_goals go_wp2
  all_goals go_region
  rw [H2.out]
  all_goals go_wp2
  all_goals rw [rounds_succ]
  all_goals go_wp2
  all_goals exact bodyPost_ret (v := .agg #[.int .u64 (x0 (v / 8589934592)), .int .u64 (x1 (v / 8589934592)), .int .u64 (x2 (v / 8589934592))]) (by simp [results, Try.results119, go_sem]) rfl ⟨rfl, by (repeat first | assumption | exact Below.refl _ _ | refine Below.drew ?_ | refine Below.drewN ?_ _ | refine Below.alloc ?_ (by (first | omega | (simp; done) | (simp; omega))) _ | refine Below.setCell ?_ (by (first | omega | (simp; done) | (simp; omega))) _ | refine Below.trans ?_ (Below.mono (by assumption) (by (first | omega | (simp; done) | (simp; omega)))))⟩

set_option maxRecDepth 100000 in
set_option maxHeartbeats 1600000 in
theorem bit31_any (v : Int) (w : World) :
    Calls Try.prog 120 #[WV v, .int .i64 31] w fun e w' => e = .returned (.int .u64 (v / 2147483648 % 2)) ∧ Below w.heap.size w w' := by
  have H0 := Lib.hid (bit31 v)
  unfold WV
  go_enter Try.func120, Try.ntmps120
  go_wp2
  rw [H0.out]
  go_ret
  exact ⟨rfl, by (repeat first | assumption | exact Below.refl _ _ | refine Below.drew ?_ | refine Below.drewN ?_ _ | refine Below.alloc ?_ (by (first | omega | (simp; done) | (simp; omega))) _ | refine Below.setCell ?_ (by (first | omega | (simp; done) | (simp; omega))) _ | refine Below.trans ?_ (Below.mono (by assumption) (by (first | omega | (simp; done) | (simp; omega)))))⟩

set_option maxRecDepth 100000 in
set_option maxHeartbeats 1600000 in
theorem bit32_any (v : Int) (w : World) :
    Calls Try.prog 120 #[WV v, .int .i64 32] w fun e w' => e = .returned (.int .u64 (v / 4294967296 % 2)) ∧ Below w.heap.size w w' := by
  have H0 := Lib.hid (bit32 v)
  unfold WV
  go_enter Try.func120, Try.ntmps120
  go_wp2
  rw [H0.out]
  go_ret
  exact ⟨rfl, by (repeat first | assumption | exact Below.refl _ _ | refine Below.drew ?_ | refine Below.drewN ?_ _ | refine Below.alloc ?_ (by (first | omega | (simp; done) | (simp; omega))) _ | refine Below.setCell ?_ (by (first | omega | (simp; done) | (simp; omega))) _ | refine Below.trans ?_ (Below.mono (by assumption) (by (first | omega | (simp; done) | (simp; omega)))))⟩

set_option maxRecDepth 100000 in
set_option maxHeartbeats 1600000 in
theorem bare31_any (v : Int) (w : World) :
    Calls Try.prog 121 #[WV v, .int .i64 31] w fun e w' => e = .returned (.bool (decide (v % 2147483648 = 0))) ∧ Below w.heap.size w w' := by
  have H0 := bare31 v
  by_cases hz : v % 2147483648 = 0
  · have e : decide (v % 2147483648 = 0) = true := by simpa using hz
    have E : IntKind.u64.wrap (x0 v * 8589934592) = 0 := by rw [H0, hz]; rfl
    rw [e]
    clear e H0 hz
    unfold WV
    go_enter Try.func121, Try.ntmps121
    go_wp2
    refine wp_loop_rounds 4 ?_
    rw [rounds_succ]
    go_wp2
    rw [rounds_succ]
    go_wp2
    rw [rounds_succ]
    go_wp2
    rw [rounds_succ]
    go_wp2
    go_ret
    exact ⟨rfl, by (repeat first | assumption | exact Below.refl _ _ | refine Below.drew ?_ | refine Below.drewN ?_ _ | refine Below.alloc ?_ (by (first | omega | (simp; done) | (simp; omega))) _ | refine Below.setCell ?_ (by (first | omega | (simp; done) | (simp; omega))) _ | refine Below.trans ?_ (Below.mono (by assumption) (by (first | omega | (simp; done) | (simp; omega)))))⟩
  · have e : decide (v % 2147483648 = 0) = false := by simpa using hz
    have E1 : (IntKind.u64.wrap (x0 v * 8589934592) == 0) = false := by rw [H0]; simp; omega
    have E2 : (IntKind.u64.wrap (x0 v * 8589934592) != 0) = true := by rw [H0]; simp; omega
    rw [e]
    clear e H0 hz
    unfold WV
    go_enter Try.func121, Try.ntmps121
    go_wp2
    refine wp_loop_rounds 4 ?_
    rw [rounds_succ]
    go_wp2
    go_ret
    exact ⟨rfl, by (repeat first | assumption | exact Below.refl _ _ | refine Below.drew ?_ | refine Below.drewN ?_ _ | refine Below.alloc ?_ (by (first | omega | (simp; done) | (simp; omega))) _ | refine Below.setCell ?_ (by (first | omega | (simp; done) | (simp; omega))) _ | refine Below.trans ?_ (Below.mono (by assumption) (by (first | omega | (simp; done) | (simp; omega)))))⟩

set_option maxRecDepth 100000 in
set_option maxHeartbeats 1600000 in
theorem bare32_any (v : Int) (w : World) :
    Calls Try.prog 121 #[WV v, .int .i64 32] w fun e w' => e = .returned (.bool (decide (v % 4294967296 = 0))) ∧ Below w.heap.size w w' := by
  have H0 := bare32 v
  by_cases hz : v % 4294967296 = 0
  · have e : decide (v % 4294967296 = 0) = true := by simpa using hz
    have E : IntKind.u64.wrap (x0 v * 4294967296) = 0 := by rw [H0, hz]; rfl
    rw [e]
    clear e H0 hz
    unfold WV
    go_enter Try.func121, Try.ntmps121
    go_wp2
    refine wp_loop_rounds 4 ?_
    rw [rounds_succ]
    go_wp2
    rw [rounds_succ]
    go_wp2
    rw [rounds_succ]
    go_wp2
    rw [rounds_succ]
    go_wp2
    go_ret
    exact ⟨rfl, by (repeat first | assumption | exact Below.refl _ _ | refine Below.drew ?_ | refine Below.drewN ?_ _ | refine Below.alloc ?_ (by (first | omega | (simp; done) | (simp; omega))) _ | refine Below.setCell ?_ (by (first | omega | (simp; done) | (simp; omega))) _ | refine Below.trans ?_ (Below.mono (by assumption) (by (first | omega | (simp; done) | (simp; omega)))))⟩
  · have e : decide (v % 4294967296 = 0) = false := by simpa using hz
    have E1 : (IntKind.u64.wrap (x0 v * 4294967296) == 0) = false := by rw [H0]; simp; omega
    have E2 : (IntKind.u64.wrap (x0 v * 4294967296) != 0) = true := by rw [H0]; simp; omega
    rw [e]
    clear e H0 hz
    unfold WV
    go_enter Try.func121, Try.ntmps121
    go_wp2
    refine wp_loop_rounds 4 ?_
    rw [rounds_succ]
    go_wp2
    go_ret
    exact ⟨rfl, by (repeat first | assumption | exact Below.refl _ _ | refine Below.drew ?_ | refine Below.drewN ?_ _ | refine Below.alloc ?_ (by (first | omega | (simp; done) | (simp; omega))) _ | refine Below.setCell ?_ (by (first | omega | (simp; done) | (simp; omega))) _ | refine Below.trans ?_ (Below.mono (by assumption) (by (first | omega | (simp; done) | (simp; omega)))))⟩
end Go.Proofs.Ytkmfdggodinjaaa
