/-
  regattaref02: numbers in digits to the base 2^32: sums.
-/
import Derived.Test.YtkmfdggodinjaaaKeep
import Derived.Test.YtkmfdggodinjaaaNum
namespace Go.Proofs.Ytkmfdggodinjaaa
open Go.RowKit
set_option linter.unusedVariables false
set_option linter.unusedSimpArgs false

/-- A number by the i-th power of 2^32; its digits; the carries of a sum. -/
def qd (v : Int) : Nat → Int
  | 0 => v
  | i + 1 => qd v i / 4294967296
def dg (v : Int) (i : Nat) : Int := qd v i % 4294967296
def cr (a b : Int) : Nat → Int
  | 0 => 0
  | i + 1 => (dg a i + dg b i + cr a b i) / 4294967296
abbrev BG (v : Int) : Value := .agg #[.int .u64 (dg v 0), .int .u64 (dg v 1), .int .u64 (dg v 2), .int .u64 (dg v 3), .int .u64 (dg v 4), .int .u64 (dg v 5)]

theorem dg_bd (v : Int) (i : Nat) : 0 ≤ dg v i ∧ dg v i ≤ 4294967295 := by unfold dg; omega
theorem cr_bd (a b : Int) : ∀ i, 0 ≤ cr a b i ∧ cr a b i ≤ 1
  | 0 => by simp [cr]
  | i + 1 => by
    have h := cr_bd a b i
    have h1 := dg_bd a i
    have h2 := dg_bd b i
    simp only [cr]
    omega
theorem q_add (a b : Int) : ∀ i, qd (a + b) i = qd a i + qd b i + cr a b i
  | 0 => by simp [qd, cr]
  | i + 1 => by
    have h := q_add a b i
    simp only [qd, cr, dg]
    rw [h]
    generalize qd a i = x
    generalize qd b i = y
    generalize cr a b i = c
    omega
theorem d_add (a b : Int) (i : Nat) : (dg a i + dg b i + cr a b i) % 4294967296 = dg (a + b) i := by
  unfold dg
  rw [q_add]
  omega
theorem wadd (a b : Int) (i : Nat) : IntKind.u64.wrap (dg a i + dg b i) = dg a i + dg b i := by
  have h1 := dg_bd a i
  have h2 := dg_bd b i
  rw [IntKind.wrap_u64]; omega
theorem wsum (a b : Int) (i : Nat) : IntKind.u64.wrap (dg a i + dg b i + cr a b i) = dg a i + dg b i + cr a b i := by
  have h1 := dg_bd a i
  have h2 := dg_bd b i
  have h3 := cr_bd a b i
  rw [IntKind.wrap_u64]; omega

theorem tcar (a b : Int) (i : Nat) : (dg a i + dg b i + cr a b i).tdiv 4294967296 = cr a b (i + 1) := by
  have h1 := dg_bd a i
  have h2 := dg_bd b i
  have h3 := cr_bd a b i
  rw [Int.tdiv_eq_ediv_of_nonneg (by omega)]
  rfl
theorem tdig (a b : Int) (i : Nat) : (dg a i + dg b i + cr a b i).tmod 4294967296 = dg (a + b) i := by
  have h1 := dg_bd a i
  have h2 := dg_bd b i
  have h3 := cr_bd a b i
  rw [Int.tmod_eq_emod_of_nonneg (by omega)]
  exact d_add a b i
theorem wcr (a b : Int) (i : Nat) : IntKind.u64.wrap (cr a b i) = cr a b i := by
  have h3 := cr_bd a b i
  rw [IntKind.wrap_u64]; omega
theorem wdg (v : Int) (i : Nat) : IntKind.u64.wrap (dg v i) = dg v i := by
  have h3 := dg_bd v i
  rw [IntKind.wrap_u64]; omega

set_option maxHeartbeats 3200000 in
set_option maxRecDepth 100000 in
theorem bPlus_any (a b : Int) (w : World) :
    Calls Try.prog 61 #[BG a, BG b] w fun e w' => e = .returned (BG (a + b)) ∧ Below w.heap.size w w' := by
  have A0 := wadd a b 0
  have B0 := wsum a b 0
  have R0 := d_add a b 0
  have K0 : IntKind.u64.wrap (cr a b 1) = cr a b 1 := wcr a b 1
  have Z0 := wdg (a + b) 0
  have D0 := tcar a b 0
  have M0 := tdig a b 0
  have C0 : (dg a 0 + dg b 0 + cr a b 0) / 4294967296 = cr a b 1 := rfl
  have A1 := wadd a b 1
  have B1 := wsum a b 1
  have R1 := d_add a b 1
  have K1 : IntKind.u64.wrap (cr a b 2) = cr a b 2 := wcr a b 2
  have Z1 := wdg (a + b) 1
  have D1 := tcar a b 1
  have M1 := tdig a b 1
  have C1 : (dg a 1 + dg b 1 + cr a b 1) / 4294967296 = cr a b 2 := rfl
  have A2 := wadd a b 2
  have B2 := wsum a b 2
  have R2 := d_add a b 2
  have K2 : IntKind.u64.wrap (cr a b 3) = cr a b 3 := wcr a b 3
  have Z2 := wdg (a + b) 2
  have D2 := tcar a b 2
  have M2 := tdig a b 2
  have C2 : (dg a 2 + dg b 2 + cr a b 2) / 4294967296 = cr a b 3 := rfl
  have A3 := wadd a b 3
  have B3 := wsum a b 3
  have R3 := d_add a b 3
  have K3 : IntKind.u64.wrap (cr a b 4) = cr a b 4 := wcr a b 4
  have Z3 := wdg (a + b) 3
  have D3 := tcar a b 3
  have M3 := tdig a b 3
  have C3 : (dg a 3 + dg b 3 + cr a b 3) / 4294967296 = cr a b 4 := rfl
  have A4 := wadd a b 4
  have B4 := wsum a b 4
  have R4 := d_add a b 4
  have K4 : IntKind.u64.wrap (cr a b 5) = cr a b 5 := wcr a b 5
  have Z4 := wdg (a + b) 4
  have D4 := tcar a b 4
  have M4 := tdig a b 4
  have C4 : (dg a 4 + dg b 4 + cr a b 4) / 4294967296 = cr a b 5 := rfl
  have A5 := wadd a b 5
  have B5 := wsum a b 5
  have R5 := d_add a b 5
  have K5 : IntKind.u64.wrap (cr a b 6) = cr a b 6 := wcr a b 6
  have Z5 := wdg (a + b) 5
  have D5 := tcar a b 5
  have M5 := tdig a b 5
  have C5 : (dg a 5 + dg b 5 + cr a b 5) / 4294967296 = cr a b 6 := rfl
  unfold BG
  generalize hT0 : dg a 0 + dg b 0 = t0 at *
  generalize hS0 : t0 + cr a b 0 = s0 at *
  generalize hT1 : dg a 1 + dg b 1 = t1 at *
  generalize hS1 : t1 + cr a b 1 = s1 at *
  generalize hT2 : dg a 2 + dg b 2 = t2 at *
  generalize hS2 : t2 + cr a b 2 = s2 at *
  generalize hT3 : dg a 3 + dg b 3 = t3 at *
  generalize hS3 : t3 + cr a b 3 = s3 at *
  generalize hT4 : dg a 4 + dg b 4 = t4 at *
  generalize hS4 : t4 + cr a b 4 = s4 at *
  generalize hT5 : dg a 5 + dg b 5 = t5 at *
  generalize hS5 : t5 + cr a b 5 = s5 at *
  generalize dg a 0 = p0 at *
  generalize dg b 0 = q0 at *
  generalize dg (a + b) 0 = r0 at *
  generalize dg a 1 = p1 at *
  generalize dg b 1 = q1 at *
  generalize dg (a + b) 1 = r1 at *
  generalize dg a 2 = p2 at *
  generalize dg b 2 = q2 at *
  generalize dg (a + b) 2 = r2 at *
  generalize dg a 3 = p3 at *
  generalize dg b 3 = q3 at *
  generalize dg (a + b) 3 = r3 at *
  generalize dg a 4 = p4 at *
  generalize dg b 4 = q4 at *
  generalize dg (a + b) 4 = r4 at *
  generalize dg a 5 = p5 at *
  generalize dg b 5 = q5 at *
  generalize dg (a + b) 5 = r5 at *
  generalize hk0 : cr a b 0 = k0 at *
  generalize hk1 : cr a b 1 = k1 at *
  generalize hk2 : cr a b 2 = k2 at *
  generalize hk3 : cr a b 3 = k3 at *
  generalize hk4 : cr a b 4 = k4 at *
  generalize hk5 : cr a b 5 = k5 at *
  generalize hk6 : cr a b 6 = k6 at *
  have hk0' : k0 = 0 := by rw [← hk0]; rfl
  subst hk0'
  rw [Int.add_zero] at hS0
  subst hS0
  clear hk0 hk1 hk2 hk3 hk4 hk5 hk6
  go_enter Try.func61, Try.ntmps61
  go_wp2
  refine wp_loop_rounds 7 ?_
  rw [rounds_succ]
  go_wp2
  go_quiet (fail)
  (try simp only [hT0, A0, Int.add_zero, B0])
  go_wp2
  rw [rounds_succ]
  go_wp2
  go_quiet (fail)
  (try simp only [hT1, A1, hS1, B1])
  go_wp2
  rw [rounds_succ]
  go_wp2
  go_quiet (fail)
  (try simp only [hT2, A2, hS2, B2])
  go_wp2
  rw [rounds_succ]
  go_wp2
  go_quiet (fail)
  (try simp only [hT3, A3, hS3, B3])
  go_wp2
  rw [rounds_succ]
  go_wp2
  go_quiet (fail)
  (try simp only [hT4, A4, hS4, B4])
  go_wp2
  rw [rounds_succ]
  go_wp2
  go_quiet (fail)
  (try simp only [hT5, A5, hS5, B5])
  go_wp2
  rw [rounds_succ]
  go_wp2
  exact bodyPost_ret (v := .agg #[.int .u64 r0, .int .u64 r1, .int .u64 r2, .int .u64 r3, .int .u64 r4, .int .u64 r5]) (by simp [results, Try.results61, go_sem]) rfl ⟨rfl, by
    (repeat first | with_reducible exact Below.refl _ _ | with_reducible refine Below.drew ?_ | with_reducible refine Below.drewN ?_ _ | with_reducible refine Below.alloc ?_ ?_ _ | with_reducible refine Below.setCell ?_ ?_ _)
    all_goals first | exact Nat.le_refl _ | (simp; done) | (simp; omega)⟩
end Go.Proofs.Ytkmfdggodinjaaa
