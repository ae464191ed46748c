/-
  Layer wide: sums of long numbers.
-/
import Derived.Test.YtkmfdggodinjaaaLongN
namespace Go.Proofs.Ytkmfdggodinjaaa
open Go.RowKit
set_option linter.unusedVariables false
set_option linter.unusedSimpArgs false
set_option maxRecDepth 8000

set_option maxRecDepth 100000 in
set_option maxHeartbeats 1600000 in
theorem plus_any (a b : Int) (w : World) :
    Calls Try.prog 108 #[WV a, WV b] w fun e w' => e = .returned (WV (a + b)) ∧ Below w.heap.size w w' := by
  have A0 : ∀ w, (callFunc 80 #[.int .u64 (x0 a), .int .u64 (x0 b), .int .u64 0]).run Try.prog w = .ok (.value (.tuple #[.int .u64 (x0 (a + b)), .int .u64 (c1 a b)])) w := fun w => by
    rw [add64 _ _ 0 (x0_bd a).1 (x0_bd b).1 (by omega) (by omega) w, plus_0]; rfl
  have A1 : ∀ w, (callFunc 80 #[.int .u64 (x1 a), .int .u64 (x1 b), .int .u64 (c1 a b)]).run Try.prog w = .ok (.value (.tuple #[.int .u64 (x1 (a + b)), .int .u64 (c2 a b)])) w := fun w => by
    rw [add64 _ _ _ (x1_bd a).1 (x1_bd b).1 (c1_bd a b).1 (c1_bd a b).2 w, plus_1]; rfl
  have A2 : ∃ z, ∀ w, (callFunc 80 #[.int .u64 (x2 a), .int .u64 (x2 b), .int .u64 (c2 a b)]).run Try.prog w = .ok (.value (.tuple #[.int .u64 (x2 (a + b)), .int .u64 z])) w := ⟨_, fun w => by
    rw [add64 _ _ _ (x2_bd a).1 (x2_bd b).1 (c2_bd a b).1 (c2_bd a b).2 w, plus_2]⟩
  obtain ⟨c3, A2⟩ := A2
  unfold WV
  generalize x0 a = p0 at *
  generalize x0 b = q0 at *
  generalize x0 (a + b) = r0 at *
  generalize x1 a = p1 at *
  generalize x1 b = q1 at *
  generalize x1 (a + b) = r1 at *
  generalize x2 a = p2 at *
  generalize x2 b = q2 at *
  generalize x2 (a + b) = r2 at *
  generalize c1 a b = k1 at *
  generalize c2 a b = k2 at *
  go_enter Try.func108, Try.ntmps108
  go_wp2
  refine wp_loop_rounds 4 ?_
  rw [rounds_succ]
  go_wp2
  go_region
  all_goals go_wp2
  all_goals rw [rounds_succ]
  all_goals go_wp2
  all_goals go_region
  all_goals go_wp2
  all_goals rw [rounds_succ]
  all_goals go_wp2
  all_goals go_region
  all_goals go_wp2
  all_goals rw [rounds_succ]
  all_goals go_wp2
  all_goals exact bodyPost_ret (v := .agg #[.int .u64 r0, .int .u64 r1, .int .u64 r2]) (by simp [results, Try.results108, go_sem]) rfl ⟨rfl, by (repeat first | assumption | exact Below.refl _ _ | refine Below.drew ?_ | refine Below.drewN ?_ _ | refine Below.alloc ?_ (by (first | omega | (simp; done) | (simp; omega))) _ | refine Below.setCell ?_ (by (first | omega | (simp; done) | (simp; omega))) _ | refine Below.trans ?_ (Below.mono (by assumption) (by (first | omega | (simp; done) | (simp; omega)))))⟩

set_option maxRecDepth 100000 in
set_option maxHeartbeats 1600000 in
theorem Plus_any (a b : Int) (w : World) :
    Calls Try.prog 86 #[LG a, LG b] w fun e w' => e = .returned (LG (a + b)) ∧ Below w.heap.size w w' := by
  have HA := Lib.hid (fun w => open_any a w)
  have HB := Lib.hid (fun w => open_any b w)
  have HP := Lib.hid (fun w => plus_any a b w)
  have HS := Lib.hid (fun w => shut_any (a + b) w)
  unfold LG WV at *
  go_enter Try.func86, Try.ntmps86
  go_wp2_with fail
  go_region_with first
    | ((with_reducible refine (HA.out _).mono ?_); rintro e w1 ⟨rfl, hb1⟩; obtain ⟨hc1, hf1⟩ := bcell hb1; have z1 := hb1.size; (try simp at z1 hc1 hf1); (try have lt11 : w.heap.size + 1 < w1.heap.size := (by omega)); (try have lt12 : w.heap.size + 1 + 1 < w1.heap.size := (by omega)); (try have lt10 : w.heap.size < w1.heap.size := (by omega)))
    | ((with_reducible refine (HB.out _).mono ?_); rintro e w2 ⟨rfl, hb2⟩; obtain ⟨hc2, hf2⟩ := bcell hb2; have z2 := hb2.size; (try simp at z2 hc2 hf2); (try have lt21 : w.heap.size + 1 < w2.heap.size := (by omega)); (try have lt22 : w.heap.size + 1 + 1 < w2.heap.size := (by omega)); (try have lt20 : w.heap.size < w2.heap.size := (by omega)))
    | ((with_reducible refine (HP.out _).mono ?_); rintro e w3 ⟨rfl, hb3⟩; obtain ⟨hc3, hf3⟩ := bcell hb3; have z3 := hb3.size; (try simp at z3 hc3 hf3); (try have lt31 : w.heap.size + 1 < w3.heap.size := (by omega)); (try have lt32 : w.heap.size + 1 + 1 < w3.heap.size := (by omega)); (try have lt30 : w.heap.size < w3.heap.size := (by omega)))
    | ((with_reducible refine (HS.out _).mono ?_); rintro e w4 ⟨rfl, hb4⟩; obtain ⟨hc4, hf4⟩ := bcell hb4; have z4 := hb4.size; (try simp at z4 hc4 hf4); (try have lt41 : w.heap.size + 1 < w4.heap.size := (by omega)); (try have lt42 : w.heap.size + 1 + 1 < w4.heap.size := (by omega)); (try have lt40 : w.heap.size < w4.heap.size := (by omega)))
    | fail
  all_goals go_wp2
  all_goals exact bodyPost_ret (v := .agg #[.int .i64 (x2s (a + b)), .int .u64 (x1 (a + b)), .int .u64 (x0 (a + b))]) (by simp [results, Try.results86, go_sem, *]) rfl ⟨rfl, by (repeat first | assumption | exact Below.refl _ _ | refine Below.drew ?_ | refine Below.drewN ?_ _ | refine Below.alloc ?_ (by (first | omega | (simp; done) | (simp; omega))) _ | refine Below.setCell ?_ (by (first | omega | (simp; done) | (simp; omega))) _ | refine Below.trans ?_ (Below.mono (by assumption) (by (first | omega | (simp; done) | (simp; omega)))))⟩
end Go.Proofs.Ytkmfdggodinjaaa
