/-
  probe.Quantile: the number at a place of all, rising. regattaref29.At.
-/
import Derived.Test.YtkmfdggodinjaaaSrtA
import Derived.Test.YtkmfdggodinjaaaSprC
namespace Go.Proofs.Ytkmfdggodinjaaa
open Go.RowKit
set_option linter.unusedVariables false
set_option linter.unusedSimpArgs false

set_option maxHeartbeats 400000 in
theorem some_none (a : Option Addr) (c : Nat) (w : World) : Calls Try.prog 23 #[.slice a 0 c] w fun e w' => e = .returned (.int .i64 40) ∧ w = w' := by
  go_enter Try.func23, Try.ntmps23
  go_wp2
  go_ret
  exact ⟨rfl, rfl⟩

set_option maxHeartbeats 1000000 in
theorem Quantile_none (a : Option Addr) (c : Nat) (num den : Int) (w : World) : Calls Try.prog 17 #[.slice a 0 c, .int .i64 num, .int .i64 den] w fun e w' => e = .returned (.tuple #[.int .i64 0, .int .i64 40]) ∧ w = w' := by
  have HSo := Lib.hid (fun w => some_none a c w)
  go_enter Try.func17, Try.ntmps17
  go_wp2_with fail
  ((with_reducible refine (HSo.out _).mono ?_); rintro e w1 ⟨rfl, rfl⟩)
  go_wp2
  go_ret2
  exact ⟨rfl, rfl⟩

set_option maxHeartbeats 1000000 in
theorem Quantile_bad (a : Option Addr) (n c : Nat) (num den : Int) (w : World) (h0 : 0 < n) (hn : n ≤ 300) (hbad : den < 1 ∨ ¬ den < 1 ∧ 1000 < den ∨ ¬ den < 1 ∧ ¬ 1000 < den ∧ num < 0 ∨ ¬ den < 1 ∧ ¬ 1000 < den ∧ ¬ num < 0 ∧ den < num) : Calls Try.prog 17 #[.slice a n c, .int .i64 num, .int .i64 den] w fun e w' => e = .returned (.tuple #[.int .i64 0, .int .i64 2]) ∧ w = w' := by
  have HSo := Lib.hid (fun w => some_any a n c w h0 (by omega))
  rcases hbad with k1 | ⟨k1, k2⟩ | ⟨k1, k2, k3⟩ | ⟨k1, k2, k3, k4⟩
  all_goals
    go_enter Try.func17, Try.ntmps17
    go_wp2_with fail
    ((with_reducible refine (HSo.out _).mono ?_); rintro e w1 ⟨rfl, rfl⟩)
    go_wp2
    go_ret2
    exact ⟨rfl, rfl⟩

set_option maxHeartbeats 1000000 in
theorem Quantile_any (a : Option Addr) (n c : Nat) (l : List Int) (num den : Int) (k : Nat) (w : World) (hr : Rd w .i64 a n l) (hnone : a = none → c = 0) (h0 : 0 < n) (hn : n ≤ 300) (hd : ¬ den < 1) (hd2 : ¬ 1000 < den) (hm : ¬ num < 0) (hm2 : ¬ den < num) (hk : (num * ((n : Int) - 1)).tdiv den = k) (hkn : k < n) :
    Calls Try.prog 17 #[.slice a n c, .int .i64 num, .int .i64 den] w fun e w' => e = .returned (.tuple #[.int .i64 ((sortI l)[k]?.getD 0), .int .i64 0]) ∧ Below w.heap.size w w' := by
  have hln : l.length = n := hr.1
  have HSo := Lib.hid (fun w => some_any a n c w h0 (by omega))
  have HCl := Lib.hid (Clone_any a n c l w hr (by omega) hnone)
  have HSr := Lib.hid (fun (v : Value) (w1 : World) (hb : Below w.heap.size w w1) (hO : Ow w1 w.heap.size 23 .i64 v l) => Sort_any v l w.heap.size w1 hO (by omega) (by omega) hb.size)
  have hp1 : 0 ≤ num * ((n : Int) - 1) ∧ num * ((n : Int) - 1) ≤ 1000 * 300 := ⟨Int.mul_nonneg (by omega) (by omega), Int.mul_le_mul (by omega) (by omega) (by omega) (by omega)⟩
  have hw1 : IntKind.i64.wrap ((n : Int) - 1) = (n : Int) - 1 := (by rw [IntKind.wrap_i64]; omega)
  have hw2 : IntKind.i64.wrap (num * ((n : Int) - 1)) = num * ((n : Int) - 1) := (by rw [IntKind.wrap_i64]; omega)
  have hw3 : IntKind.i64.wrap (k : Int) = (k : Int) := (by rw [IntKind.wrap_i64]; omega)
  have hd0 : ¬ den = 0 := by omega
  have Hsl : Hid ((sortI l).length = n) := Lib.hid (by rw [sortI_len]; exact hln)
  have Hln := Lib.hid hln
  clear hr hnone hp1 hln
  go_enter Try.func17, Try.ntmps17
  go_wp2_with fail
  ((with_reducible refine (HSo.out _).mono ?_); rintro e w1 ⟨rfl, rfl⟩)
  go_wp2_with fail
  ((with_reducible refine HCl.out.mono ?_); rintro e w1 ⟨v, rfl, hO, hb1⟩)
  obtain ⟨a', c', rfl, hnc, hBl⟩ := ownsRow_form hO
  have hlen : l.length = n := Hln.out
  have hs' := HSr.out _ w1 hb1 hO
  rw [hlen] at *
  have HSr' := Lib.hid hs'
  clear hs'
  clear hO
  have Hb1 := Lib.hid hb1
  go_wp2_with fail
  ((with_reducible refine HSr'.out.mono ?_); rintro e w2 ⟨rfl, hO2, hb2⟩)
  have hr2 : Rd w2 .i64 a' n (sortI l) := by
    have h9 : w2.ownsRow w.heap.size 23 1 (.slice a' n c') (sortI l).length ((sortI l).map (Value.int .i64)) := hO2
    rw [Hsl.out] at h9
    exact Ow.rd (Ow.of h9) (by omega)
  obtain ⟨b, o, rfl, hbw, hcell⟩ := hr2.at (i := k) hkn
  have Hb2 : Hid (Below w.heap.size w w2) := Lib.hid (Hb1.out.trans hb2)
  clear hO2 hr2 hb2 hb1 hBl
  go_wp2
  go_ret2
  exact ⟨rfl, Hb2.out⟩
end Go.Proofs.Ytkmfdggodinjaaa
