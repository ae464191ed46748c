/-
  Layer fix: a wide number held, differences, turned numbers.
-/
import Derived.Test.YtkmfdggodinjaaaWideB
namespace Go.Proofs.Ytkmfdggodinjaaa
open Go.RowKit
set_option linter.unusedVariables false
set_option linter.unusedSimpArgs false
set_option maxRecDepth 8000

/-- What is held of a number of steps: the Fix, and whether it was held. -/
abbrev Held (v : Int) : Value := .tuple #[.int .i64 (clampI v), .bool (over v)]

set_option maxRecDepth 100000 in
set_option maxHeartbeats 800000 in
theorem held_any (a : Int) (w : World) (h : I128 a) :
    Calls Try.prog 103 #[W a] w fun e w' => e = .returned (Held a) ∧ Below w.heap.size w w' := by
  have HC := Lib.hid (fun w => Clamp_any a w h)
  unfold W at *
  clear h
  go_enter Try.func103, Try.ntmps103
  go_wp2_with fail
  ((with_reducible refine (HC.out _).mono ?_); rintro e w1 ⟨rfl, hb⟩)
  obtain ⟨hc1, hf1⟩ := bcell hb
  have hsz := hb.size
  simp at hsz hc1 hf1
  have Hb := Lib.hid hb; clear hb
  go_wp2
  go_ret2
  exact ⟨rfl, by have := Hb.out; (repeat first | assumption | exact Below.refl _ _ | refine Below.drew ?_ | refine Below.drewN ?_ _ | refine Below.alloc ?_ (by (first | omega | (simp; done) | (simp; omega))) _ | refine Below.setCell ?_ (by (first | omega | (simp; done) | (simp; omega))) _ | refine Below.trans ?_ (Below.mono (by assumption) (by (first | omega | (simp; done) | (simp; omega)))))⟩

set_option maxRecDepth 100000 in
set_option maxHeartbeats 800000 in
theorem fixof_any (a : Int) (w : World) (h : I64 a) :
    Calls Try.prog 105 #[.int .i64 a] w fun e w' => e = .returned (W a) ∧ Below w.heap.size w w' := by
  have HC := Lib.hid (fun w => Of_any a w h)
  unfold W at *
  clear h
  go_enter Try.func105, Try.ntmps105
  go_wp2_with fail
  ((with_reducible refine (HC.out _).mono ?_); rintro e w1 ⟨rfl, hb⟩)
  obtain ⟨hc1, hf1⟩ := bcell hb
  have hsz := hb.size
  simp at hsz hc1 hf1
  have Hb := Lib.hid hb; clear hb
  go_wp2
  exact bodyPost_ret (v := .agg #[.int .i64 (whi a), .int .u64 (wlo a)]) (by simp [results, Try.results105, go_sem, hc1, hf1]) rfl ⟨rfl, by have := Hb.out; (repeat first | assumption | exact Below.refl _ _ | refine Below.drew ?_ | refine Below.drewN ?_ _ | refine Below.alloc ?_ (by (first | omega | (simp; done) | (simp; omega))) _ | refine Below.setCell ?_ (by (first | omega | (simp; done) | (simp; omega))) _ | refine Below.trans ?_ (Below.mono (by assumption) (by (first | omega | (simp; done) | (simp; omega)))))⟩

theorem I64_sub {a b : Int} (ha : I64 a) (hb : I64 b) : I128 (a - b) := by unfold I64 I128 at *; omega
theorem I64_neg {a : Int} (ha : I64 a) : I128 (-a) := by unfold I64 I128 at *; omega
theorem I64_I128 {a : Int} (ha : I64 a) : I128 a := by unfold I64 I128 at *; omega

set_option maxRecDepth 100000 in
set_option maxHeartbeats 1600000 in
theorem fixSub_any (a b : Int) (w : World) (ha : I64 a) (hb : I64 b) :
    Calls Try.prog 74 #[.int .i64 a, .int .i64 b] w fun e w' => e = .returned (Held (a - b)) ∧ Below w.heap.size w w' := by
  have HA := Lib.hid (fun w => fixof_any a w ha)
  have HB := Lib.hid (fun w => fixof_any b w hb)
  have HN := Lib.hid (fun w => Sub_any a b w)
  have HH := Lib.hid (fun w => held_any (a - b) w (I64_sub ha hb))
  unfold W at *
  clear ha hb
  go_enter Try.func74, Try.ntmps74
  go_wp2_with first
    | ((with_reducible refine (HA.out _).mono ?_); rintro e w1 ⟨rfl, hb1⟩; have z1 := hb1.size)
    | ((with_reducible refine (HB.out _).mono ?_); rintro e w2 ⟨rfl, hb2⟩; have z2 := hb2.size)
    | ((with_reducible refine (HN.out _).mono ?_); rintro e w3 ⟨rfl, hb3⟩; have z3 := hb3.size)
    | ((with_reducible refine (HH.out _).mono ?_); rintro e w4 ⟨rfl, hb4⟩)
    | fail
  go_ret2
  exact ⟨rfl, by (repeat first | assumption | exact Below.refl _ _ | refine Below.drew ?_ | refine Below.drewN ?_ _ | refine Below.alloc ?_ (by (first | omega | (simp; done) | (simp; omega))) _ | refine Below.setCell ?_ (by (first | omega | (simp; done) | (simp; omega))) _ | refine Below.trans ?_ (Below.mono (by assumption) (by (first | omega | (simp; done) | (simp; omega)))))⟩
end Go.Proofs.Ytkmfdggodinjaaa
