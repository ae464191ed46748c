/-
  Layer fix: floats. The least and the greatest of three numbers.
-/
import Derived.Test.YtkmfdggodinjaaaMeanA
import Derived.WalkLawsBesides
namespace Go.Proofs.Ytkmfdggodinjaaa
open Go.RowKit
set_option linter.unusedVariables false
set_option linter.unusedSimpArgs false

set_option maxHeartbeats 400000 in
set_option maxRecDepth 20000 in
theorem Float_at (a : Int) (r : Nat) (w : World) (h : floatBits .quo .f64 (floatOfInt .f64 a) 4751297606875873280 = some r) :
    Calls Try.prog 26 #[.int .i64 a] w fun e w' => e = .returned (.float .f64 r) ∧ w = w' := by
  have HF : ∀ w, (binOp BinOp.quo 36 (.float .f64 (floatOfInt .f64 a)) (.float .f64 4751297606875873280)).run Try.prog w = .ok (.float .f64 r) w := fun w => run_float_arith w .quo 36 .f64 _ _ r h
  clear h
  go_enter Try.func26, Try.ntmps26
  go_wp2
  go_ret
  exact ⟨rfl, rfl⟩

theorem fl_least : floatBits .quo .f64 (floatOfInt .f64 (-17179869184)) 4751297606875873280 = some 13839561654909534208 := by decide +kernel
theorem fl_length : floatBits .quo .f64 (floatOfInt .f64 21474836480) 4751297606875873280 = some 4617315517961601024 := by decide +kernel
theorem fl_some {a : Int} (h : (floatBits .quo .f64 (floatOfInt .f64 a) 4751297606875873280).isSome = true) : ∃ r, floatBits .quo .f64 (floatOfInt .f64 a) 4751297606875873280 = some r := Option.isSome_iff_exists.1 h
theorem fl_most : (floatBits .quo .f64 (floatOfInt .f64 12884901888) 4751297606875873280).isSome = true := by decide +kernel
theorem fl_mean : (floatBits .quo .f64 (floatOfInt .f64 (-1431655765)) 4751297606875873280).isSome = true := by decide +kernel

def exL : List Int := [12884901888, 0, -17179869184]
set_option maxHeartbeats 800000 in
set_option maxRecDepth 20000 in
theorem sMin_ex (b o c : Nat) (w : World) (h0 : w.cell? ⟨b, o, none⟩ = some (.int .i64 12884901888)) (h1 : w.cell? ⟨b, o + 1, none⟩ = some (.int .i64 0)) (h2 : w.cell? ⟨b, o + 2, none⟩ = some (.int .i64 (-17179869184))) :
    Calls Try.prog 27 #[.slice (some ⟨b, o, none⟩) 3 c] w fun e w' => e = .returned (.int .i64 (-17179869184)) ∧ w = w' := by
  go_enter Try.func27, Try.ntmps27
  go_wp2
  refine wp_loop_rounds 3 ?_
  rw [rounds_succ]
  go_wp2
  rw [rounds_succ]
  go_wp2
  rw [rounds_succ]
  go_wp2
  go_ret
  exact ⟨rfl, rfl⟩

set_option maxHeartbeats 800000 in
set_option maxRecDepth 20000 in
theorem sMax_ex (b o c : Nat) (w : World) (h0 : w.cell? ⟨b, o, none⟩ = some (.int .i64 12884901888)) (h1 : w.cell? ⟨b, o + 1, none⟩ = some (.int .i64 0)) (h2 : w.cell? ⟨b, o + 2, none⟩ = some (.int .i64 (-17179869184))) :
    Calls Try.prog 28 #[.slice (some ⟨b, o, none⟩) 3 c] w fun e w' => e = .returned (.int .i64 12884901888) ∧ w = w' := by
  go_enter Try.func28, Try.ntmps28
  go_wp2
  refine wp_loop_rounds 3 ?_
  rw [rounds_succ]
  go_wp2
  rw [rounds_succ]
  go_wp2
  rw [rounds_succ]
  go_wp2
  go_ret
  exact ⟨rfl, rfl⟩

end Go.Proofs.Ytkmfdggodinjaaa
