/-
  Layer wide: comparing, clamping, shifting by 31 and 32, rounding by 32.
-/
import Derived.Test.YtkmfdggodinjaaaWideA
import Derived.StillTailTactics
import Derived.Deep.RegionHeld3
import Derived.Deep.DeepCutAuto
import Derived.Deep.CutBlock
import Derived.Test.YtkmfdggodinjaaaBits
import Derived.Test.YtkmfdggodinjaaaKeep
namespace Go.Proofs.Ytkmfdggodinjaaa
open Go.RowKit
set_option linter.unusedVariables false
set_option linter.unusedSimpArgs false

theorem clamp_in {v : Int} (h : I128 v) (h2 : I64 v) : whi v = wrap64 (wlo v) / 9223372036854775808 ∧ wrap64 (wlo v) = clampI v ∧ over v = false := by
  refine ⟨?_, ?_, ?_⟩
  · rw [whi_eq h]; unfold I64 at h2; unfold wlo wrap64; omega
  · unfold I64 at h2; unfold wlo wrap64 clampI; rw [if_neg (by omega), if_neg (by omega)]; omega
  · unfold I64 at h2; unfold over; simp; omega
theorem clamp_out {v : Int} (h : I128 v) (h2 : ¬ I64 v) : whi v ≠ wrap64 (wlo v) / 9223372036854775808 := by
  rw [whi_eq h]; unfold I64 at h2; unfold wlo wrap64; omega

set_option maxRecDepth 100000 in
set_option maxHeartbeats 400000 in
theorem Clamp_any (v : Int) (w : World) (h : I128 v) :
    Calls Try.prog 82 #[W v] w fun e w' => e = .returned (.tuple #[.int .i64 (clampI v), .bool (over v)]) ∧ Below w.heap.size w w' := by
  obtain ⟨ha1, ha2⟩ := wlo_bd v
  by_cases h2 : I64 v
  · obtain ⟨e1, e2, e3⟩ := clamp_in h h2
    rw [e3, ← e2]
    have e1' : (whi v == wrap64 (wlo v) / 9223372036854775808) = true := by simpa using e1
    clear e1 e2 e3 h2 h
    unfold W
    go_enter Try.func82, Try.ntmps82
    go_wp2
    go_ret2
    exact ⟨rfl, (Below.refl _ _).alloc (Nat.le_refl _) _⟩
  · have e1' : (whi v == wrap64 (wlo v) / 9223372036854775808) = false := by simpa using clamp_out h h2
    by_cases h3 : v < 0
    · have e4 : whi v < 0 := by rw [whi_eq h]; omega
      have e5 : clampI v = -9223372036854775808 := by unfold I64 at h2; unfold clampI; rw [if_pos (by omega)]
      have e6 : over v = true := by unfold I64 at h2; unfold over; simp; omega
      rw [e5, e6]
      clear h2 h h3 e5 e6
      unfold W
      go_enter Try.func82, Try.ntmps82
      go_wp2
      go_ret2
      exact ⟨rfl, (Below.refl _ _).alloc (Nat.le_refl _) _⟩
    · have e4 : ¬ whi v < 0 := by rw [whi_eq h]; omega
      have e5 : clampI v = 9223372036854775807 := by unfold I64 at h2; unfold clampI; rw [if_neg (by omega), if_pos (by omega)]
      have e6 : over v = true := by unfold I64 at h2; unfold over; simp; omega
      rw [e5, e6]
      clear h2 h h3 e5 e6
      unfold W
      go_enter Try.func82, Try.ntmps82
      go_wp2
      go_ret2
      exact ⟨rfl, (Below.refl _ _).alloc (Nat.le_refl _) _⟩

def cmpI (a b : Int) : Int := if a < b then -1 else if a = b then 0 else 1

set_option maxRecDepth 100000 in
set_option maxHeartbeats 800000 in
theorem Cmp_any (a b : Int) (w : World) (ha : I128 a) (hb : I128 b) :
    Calls Try.prog 50 #[W a, W b] w fun e w' => e = .returned (.int .i64 (cmpI a b)) ∧ Below w.heap.size w w' := by
  have k1 := whi_wlo ha
  have k2 := whi_wlo hb
  have l1 := wlo_bd a
  have l2 := wlo_bd b
  by_cases h1 : whi a < whi b
  · have e : cmpI a b = -1 := by unfold cmpI; rw [if_pos (by omega)]
    rw [e]; clear e k1 k2 ha hb l1 l2
    unfold W
    go_enter Try.func50, Try.ntmps50
    go_wp2
    go_ret
    exact ⟨rfl, ((Below.refl _ _).alloc (Nat.le_refl _) _).alloc (by simp) _⟩
  by_cases h2 : whi a = whi b
  · by_cases h3 : wlo a < wlo b
    · have e : cmpI a b = -1 := by unfold cmpI; rw [if_pos (by omega)]
      rw [e]; clear e k1 k2 ha hb l1 l2
      unfold W
      rw [h2]; clear h2 h1
      go_enter Try.func50, Try.ntmps50
      go_wp2
      go_ret
      exact ⟨rfl, ((Below.refl _ _).alloc (Nat.le_refl _) _).alloc (by simp) _⟩
    · by_cases h4 : wlo a = wlo b
      · have e : cmpI a b = 0 := by unfold cmpI; rw [if_neg (by omega), if_pos (by omega)]
        rw [e]; clear e k1 k2 ha hb l1 l2
        unfold W
        rw [h2, h4]; clear h2 h1 h4 h3
        go_enter Try.func50, Try.ntmps50
        go_wp2
        go_ret
        exact ⟨rfl, ((Below.refl _ _).alloc (Nat.le_refl _) _).alloc (by simp) _⟩
      · have e : cmpI a b = 1 := by unfold cmpI; rw [if_neg (by omega), if_neg (by omega)]
        have h4' : (wlo a == wlo b) = false := by simpa using h4
        rw [e]; clear e k1 k2 ha hb l1 l2 h4
        unfold W
        rw [h2]; clear h2 h1
        go_enter Try.func50, Try.ntmps50
        go_wp2
        go_ret
        exact ⟨rfl, ((Below.refl _ _).alloc (Nat.le_refl _) _).alloc (by simp) _⟩
  · have e : cmpI a b = 1 := by unfold cmpI; rw [if_neg (by omega), if_neg (by omega)]
    have h2' : (whi a == whi b) = false := by simpa using h2
    rw [e]; clear e k1 k2 ha hb l1 l2 h2
    unfold W
    go_enter Try.func50, Try.ntmps50
    go_wp2
    go_ret
    exact ⟨rfl, ((Below.refl _ _).alloc (Nat.le_refl _) _).alloc (by simp) _⟩

theorem shl32_hi (a : Int) : bits .or .i64 (wrap64 (whi a * 4294967296)) (wlo a / 4294967296) = whi (a * 4294967296) := by
  have := wlo_bd a
  rw [or_add_i64 32 (by unfold wrap64; omega) (by omega) (by omega) (by omega) (by unfold wrap64; omega)]
  unfold whi wlo wrap64
  omega
theorem shl32_lo (a : Int) : IntKind.u64.wrap (wlo a * 4294967296) = wlo (a * 4294967296) := by
  rw [IntKind.wrap_u64]; unfold wlo; omega
theorem shr32_lo (a : Int) : bits .or .u64 (wlo a / 4294967296) (IntKind.u64.wrap (IntKind.u64.wrap (whi a) * 4294967296)) = wlo (a / 4294967296) := by
  have := wlo_bd a
  rw [IntKind.wrap_u64, IntKind.wrap_u64]
  rw [(or_add_u64 32 (by omega) (by omega) (by omega) (by omega) (by omega) (by omega)).2]
  unfold whi wlo wrap64
  omega
theorem shr32_hi {a : Int} (h : I128 a) : whi a / 4294967296 = whi (a / 4294967296) := by
  rw [whi_eq h]
  unfold I128 at h
  unfold whi wrap64
  omega

set_option maxRecDepth 100000 in
set_option maxHeartbeats 800000 in
theorem Shl32_any (a : Int) (w : World) :
    Calls Try.prog 99 #[W a, .int .i64 32] w fun e w' => e = .returned (W (a * 4294967296)) ∧ Below w.heap.size w w' := by
  obtain ⟨l1, l2⟩ := wlo_bd a
  have H1 := Lib.hid (shl32_hi a)
  have H2 := Lib.hid (shl32_lo a)
  unfold W
  go_enter Try.func99, Try.ntmps99
  go_wp2
  go_region
  rw [H1.out, H2.out]
  go_wp2
  exact bodyPost_ret (v := .agg #[.int .i64 (whi (a * 4294967296)), .int .u64 (wlo (a * 4294967296))]) (by simp [results, Try.results99, go_sem]) rfl ⟨rfl, (((Below.refl _ _).alloc (Nat.le_refl _) _).alloc (by simp) _).drew⟩

set_option maxRecDepth 100000 in
set_option maxHeartbeats 800000 in
theorem Shr32_any (a : Int) (w : World) (h : I128 a) :
    Calls Try.prog 116 #[W a, .int .i64 32] w fun e w' => e = .returned (W (a / 4294967296)) ∧ Below w.heap.size w w' := by
  obtain ⟨l1, l2⟩ := wlo_bd a
  have H1 := Lib.hid (shr32_hi h)
  have H2 := Lib.hid (shr32_lo a)
  unfold W
  clear h
  go_enter Try.func116, Try.ntmps116
  go_wp2
  go_region
  rw [H1.out, H2.out]
  go_wp2
  exact bodyPost_ret (v := .agg #[.int .i64 (whi (a / 4294967296)), .int .u64 (wlo (a / 4294967296))]) (by simp [results, Try.results116, go_sem]) rfl ⟨rfl, (((Below.refl _ _).alloc (Nat.le_refl _) _).alloc (by simp) _).drew⟩

/-- 2^31, as a wide number is shifted to it. -/
theorem Shl31_one (w : World) : Calls Try.prog 99 #[W 1, .int .i64 31] w fun e w' => e = .returned (W 2147483648) ∧ Below w.heap.size w w' := by
  have e1 : W 1 = .agg #[.int .i64 0, .int .u64 1] := by
    have a1 : whi 1 = 0 := by unfold whi wrap64; omega
    have a2 : wlo 1 = 1 := by unfold wlo; omega
    simp only [W, a1, a2]
  have e2 : W 2147483648 = .agg #[.int .i64 0, .int .u64 2147483648] := by
    have a1 : whi 2147483648 = 0 := by unfold whi wrap64; omega
    have a2 : wlo 2147483648 = 2147483648 := by unfold wlo; omega
    simp only [W, a1, a2]
  rw [e1, e2]
  go_enter Try.func99, Try.ntmps99
  go_wp2
  go_region
  have e3 : bits .or .i64 0 0 = 0 := by decide
  rw [e3]
  go_wp2
  exact bodyPost_ret (v := .agg #[.int .i64 0, .int .u64 2147483648]) (by simp [results, Try.results99, go_sem]) rfl ⟨rfl, (((Below.refl _ _).alloc (Nat.le_refl _) _).alloc (by simp) _).drew⟩

end Go.Proofs.Ytkmfdggodinjaaa
