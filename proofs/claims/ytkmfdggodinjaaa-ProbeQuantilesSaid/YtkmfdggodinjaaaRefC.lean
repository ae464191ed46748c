/-
  regattaref02: digits to the base 2^32: less, minus, half.
-/
import Derived.Test.YtkmfdggodinjaaaRefN
namespace Go.Proofs.Ytkmfdggodinjaaa
open Go.RowKit
set_option linter.unusedVariables false
set_option linter.unusedSimpArgs false

theorem sub_w1 (a : Int) (i : Nat) : IntKind.u64.wrap (dg a i + 4294967296) = dg a i + 4294967296 := by
  have h1 := dg_bd a i
  rw [IntKind.wrap_u64]; omega
theorem sub_w2 (a b : Int) (i : Nat) : IntKind.u64.wrap (dg a i + 4294967296 - dg b i) = dg a i + 4294967296 - dg b i := by
  have h1 := dg_bd a i
  have h2 := dg_bd b i
  rw [IntKind.wrap_u64]; omega
theorem sub_w3 (a b : Int) (i : Nat) : IntKind.u64.wrap (dg a i + 4294967296 - dg b i - bo a b i) = dg a i + 4294967296 - dg b i - bo a b i := by
  have h1 := dg_bd a i
  have h2 := dg_bd b i
  have h3 := bo_bd a b i
  rw [IntKind.wrap_u64]; omega
theorem sub_d (a b : Int) (i : Nat) : (dg a i + 4294967296 - dg b i - bo a b i).tdiv 4294967296 = (dg a i + 4294967296 - dg b i - bo a b i) / 4294967296 := by
  have h1 := dg_bd a i
  have h2 := dg_bd b i
  have h3 := bo_bd a b i
  rw [Int.tdiv_eq_ediv_of_nonneg (by omega)]
theorem sub_m (a b : Int) (i : Nat) : (dg a i + 4294967296 - dg b i - bo a b i).tmod 4294967296 = dg (a - b) i := by
  have h1 := dg_bd a i
  have h2 := dg_bd b i
  have h3 := bo_bd a b i
  rw [Int.tmod_eq_emod_of_nonneg (by omega)]
  exact d_sub a b i
theorem sub_c (a b : Int) (i : Nat) : IntKind.u64.wrap (1 - (dg a i + 4294967296 - dg b i - bo a b i) / 4294967296) = bo a b (i + 1) := by
  have h := bo_bd a b (i + 1)
  rw [show 1 - (dg a i + 4294967296 - dg b i - bo a b i) / 4294967296 = bo a b (i + 1) from rfl]
  rw [IntKind.wrap_u64]; omega
theorem sub_q (a b : Int) (i : Nat) : IntKind.u64.wrap ((dg a i + 4294967296 - dg b i - bo a b i) / 4294967296) = (dg a i + 4294967296 - dg b i - bo a b i) / 4294967296 := by
  have h1 := dg_bd a i
  have h2 := dg_bd b i
  have h3 := bo_bd a b i
  rw [IntKind.wrap_u64]; omega

theorem half_w1 (v : Int) (i : Nat) : IntKind.u64.wrap (ov v i * 4294967296) = ov v i * 4294967296 := by
  have h := ov_bd v i
  rw [IntKind.wrap_u64]; omega
theorem half_w2 (v : Int) (i : Nat) : IntKind.u64.wrap (ov v (i + 1) * 4294967296 + dg v i) = ov v (i + 1) * 4294967296 + dg v i := by
  have h := ov_bd v (i + 1)
  have h1 := dg_bd v i
  rw [IntKind.wrap_u64]; omega
theorem half_t (v : Int) (i : Nat) : (ov v (i + 1) * 4294967296 + dg v i).tdiv 2 = dg (v / 2) i := by
  have h := ov_bd v (i + 1)
  have h1 := dg_bd v i
  rw [Int.tdiv_eq_ediv_of_nonneg (by omega)]
  exact half_d v i
theorem half_m (v : Int) (i : Nat) : (ov v (i + 1) * 4294967296 + dg v i).tmod 2 = ov v i := by
  have h := ov_bd v (i + 1)
  have h1 := dg_bd v i
  rw [Int.tmod_eq_emod_of_nonneg (by omega)]
  exact half_c v i
theorem wov (v : Int) (i : Nat) : IntKind.u64.wrap (ov v i) = ov v i := by
  have h := ov_bd v i
  rw [IntKind.wrap_u64]; omega


set_option maxHeartbeats 3200000 in
set_option maxRecDepth 100000 in
theorem bMinus_any (a b : Int) (w : World) :
    Calls Try.prog 88 #[BG a, BG b] w fun e w' => e = .returned (BG (a - b)) ∧ Below w.heap.size w w' := by
  have E0 := sub_w1 a 0
  have F0 := sub_w2 a b 0
  have B0 := sub_w3 a b 0
  have D0 := sub_d a b 0
  have M0 := sub_m a b 0
  have Q0 := sub_q a b 0
  have K0 : IntKind.u64.wrap (1 - (dg a 0 + 4294967296 - dg b 0 - bo a b 0) / 4294967296) = bo a b 1 := sub_c a b 0
  have Z0 := wdg (a - b) 0
  have E1 := sub_w1 a 1
  have F1 := sub_w2 a b 1
  have B1 := sub_w3 a b 1
  have D1 := sub_d a b 1
  have M1 := sub_m a b 1
  have Q1 := sub_q a b 1
  have K1 : IntKind.u64.wrap (1 - (dg a 1 + 4294967296 - dg b 1 - bo a b 1) / 4294967296) = bo a b 2 := sub_c a b 1
  have Z1 := wdg (a - b) 1
  have E2 := sub_w1 a 2
  have F2 := sub_w2 a b 2
  have B2 := sub_w3 a b 2
  have D2 := sub_d a b 2
  have M2 := sub_m a b 2
  have Q2 := sub_q a b 2
  have K2 : IntKind.u64.wrap (1 - (dg a 2 + 4294967296 - dg b 2 - bo a b 2) / 4294967296) = bo a b 3 := sub_c a b 2
  have Z2 := wdg (a - b) 2
  have E3 := sub_w1 a 3
  have F3 := sub_w2 a b 3
  have B3 := sub_w3 a b 3
  have D3 := sub_d a b 3
  have M3 := sub_m a b 3
  have Q3 := sub_q a b 3
  have K3 : IntKind.u64.wrap (1 - (dg a 3 + 4294967296 - dg b 3 - bo a b 3) / 4294967296) = bo a b 4 := sub_c a b 3
  have Z3 := wdg (a - b) 3
  have E4 := sub_w1 a 4
  have F4 := sub_w2 a b 4
  have B4 := sub_w3 a b 4
  have D4 := sub_d a b 4
  have M4 := sub_m a b 4
  have Q4 := sub_q a b 4
  have K4 : IntKind.u64.wrap (1 - (dg a 4 + 4294967296 - dg b 4 - bo a b 4) / 4294967296) = bo a b 5 := sub_c a b 4
  have Z4 := wdg (a - b) 4
  have E5 := sub_w1 a 5
  have F5 := sub_w2 a b 5
  have B5 := sub_w3 a b 5
  have D5 := sub_d a b 5
  have M5 := sub_m a b 5
  have Q5 := sub_q a b 5
  have K5 : IntKind.u64.wrap (1 - (dg a 5 + 4294967296 - dg b 5 - bo a b 5) / 4294967296) = bo a b 6 := sub_c a b 5
  have Z5 := wdg (a - b) 5
  unfold BG
  generalize hU0 : dg a 0 + 4294967296 = u0 at *
  generalize hT0 : u0 - dg b 0 = t0 at *
  generalize hS0 : t0 - bo a b 0 = s0 at *
  generalize hE0 : s0 / 4294967296 = e0 at *
  generalize hU1 : dg a 1 + 4294967296 = u1 at *
  generalize hT1 : u1 - dg b 1 = t1 at *
  generalize hS1 : t1 - bo a b 1 = s1 at *
  generalize hE1 : s1 / 4294967296 = e1 at *
  generalize hU2 : dg a 2 + 4294967296 = u2 at *
  generalize hT2 : u2 - dg b 2 = t2 at *
  generalize hS2 : t2 - bo a b 2 = s2 at *
  generalize hE2 : s2 / 4294967296 = e2 at *
  generalize hU3 : dg a 3 + 4294967296 = u3 at *
  generalize hT3 : u3 - dg b 3 = t3 at *
  generalize hS3 : t3 - bo a b 3 = s3 at *
  generalize hE3 : s3 / 4294967296 = e3 at *
  generalize hU4 : dg a 4 + 4294967296 = u4 at *
  generalize hT4 : u4 - dg b 4 = t4 at *
  generalize hS4 : t4 - bo a b 4 = s4 at *
  generalize hE4 : s4 / 4294967296 = e4 at *
  generalize hU5 : dg a 5 + 4294967296 = u5 at *
  generalize hT5 : u5 - dg b 5 = t5 at *
  generalize hS5 : t5 - bo a b 5 = s5 at *
  generalize hE5 : s5 / 4294967296 = e5 at *
  generalize dg a 0 = p0 at *
  generalize dg b 0 = q0 at *
  generalize dg (a - b) 0 = r0 at *
  generalize dg a 1 = p1 at *
  generalize dg b 1 = q1 at *
  generalize dg (a - b) 1 = r1 at *
  generalize dg a 2 = p2 at *
  generalize dg b 2 = q2 at *
  generalize dg (a - b) 2 = r2 at *
  generalize dg a 3 = p3 at *
  generalize dg b 3 = q3 at *
  generalize dg (a - b) 3 = r3 at *
  generalize dg a 4 = p4 at *
  generalize dg b 4 = q4 at *
  generalize dg (a - b) 4 = r4 at *
  generalize dg a 5 = p5 at *
  generalize dg b 5 = q5 at *
  generalize dg (a - b) 5 = r5 at *
  generalize hk0 : bo a b 0 = k0 at *
  generalize hk1 : bo a b 1 = k1 at *
  generalize hk2 : bo a b 2 = k2 at *
  generalize hk3 : bo a b 3 = k3 at *
  generalize hk4 : bo a b 4 = k4 at *
  generalize hk5 : bo a b 5 = k5 at *
  generalize hk6 : bo a b 6 = k6 at *
  have hk0' : k0 = 0 := by rw [← hk0]; rfl
  subst hk0'
  rw [Int.sub_zero] at hS0
  subst hS0
  clear hk0 hk1 hk2 hk3 hk4 hk5 hk6
  go_enter Try.func88, Try.ntmps88
  go_wp2
  refine wp_loop_rounds 7 ?_
  rw [rounds_succ]
  go_wp2
  go_quiet (fail)
  (try simp only [hU0, E0, hT0, F0, Int.sub_zero, B0, D0, M0, Q0, K0])
  go_wp2
  rw [rounds_succ]
  go_wp2
  go_quiet (fail)
  (try simp only [hU1, E1, hT1, F1, Int.sub_zero, hS1, B1, D1, M1, Q1, K1])
  go_wp2
  rw [rounds_succ]
  go_wp2
  go_quiet (fail)
  (try simp only [hU2, E2, hT2, F2, Int.sub_zero, hS2, B2, D2, M2, Q2, K2])
  go_wp2
  rw [rounds_succ]
  go_wp2
  go_quiet (fail)
  (try simp only [hU3, E3, hT3, F3, Int.sub_zero, hS3, B3, D3, M3, Q3, K3])
  go_wp2
  rw [rounds_succ]
  go_wp2
  go_quiet (fail)
  (try simp only [hU4, E4, hT4, F4, Int.sub_zero, hS4, B4, D4, M4, Q4, K4])
  go_wp2
  rw [rounds_succ]
  go_wp2
  go_quiet (fail)
  (try simp only [hU5, E5, hT5, F5, Int.sub_zero, hS5, B5, D5, M5, Q5, K5])
  go_wp2
  rw [rounds_succ]
  go_wp2
  exact bodyPost_ret (v := .agg #[.int .u64 r0, .int .u64 r1, .int .u64 r2, .int .u64 r3, .int .u64 r4, .int .u64 r5]) (by simp [results, Try.results88, go_sem]) rfl ⟨rfl, by
    (repeat first | with_reducible exact Below.refl _ _ | with_reducible refine Below.drew ?_ | with_reducible refine Below.drewN ?_ _ | with_reducible refine Below.alloc ?_ ?_ _ | with_reducible refine Below.setCell ?_ ?_ _)
    all_goals first | exact Nat.le_refl _ | (simp; done) | (simp; omega)⟩

set_option maxHeartbeats 6400000 in
set_option maxRecDepth 100000 in
theorem bLess_any (a b : Int) (w : World) (ha : U192 a) (hb : U192 b) :
    Calls Try.prog 51 #[BG a, BG b] w fun e w' => e = .returned (.bool (decide (a < b))) ∧ Below w.heap.size w w' := by
  have t6 : qd a 6 = qd b 6 := by rw [qd_top ha, qd_top hb]
  have L5 : dg a 5 ≠ dg b 5 → decide (dg a 5 < dg b 5) = decide (a < b) := fun h => by
    have e : qd a 6 = qd b 6 := t6
    rw [lt_dif e h]
    exact lt_down 5 (by intro h2; apply h; unfold dg; rw [h2])
  have L4 : dg a 5 = dg b 5 → dg a 4 ≠ dg b 4 → decide (dg a 4 < dg b 4) = decide (a < b) := fun h5 h => by
    have e : qd a 5 = qd b 5 := (lt_eq t6 h5)
    rw [lt_dif e h]
    exact lt_down 4 (by intro h2; apply h; unfold dg; rw [h2])
  have L3 : dg a 5 = dg b 5 → dg a 4 = dg b 4 → dg a 3 ≠ dg b 3 → decide (dg a 3 < dg b 3) = decide (a < b) := fun h5 h4 h => by
    have e : qd a 4 = qd b 4 := (lt_eq (lt_eq t6 h5) h4)
    rw [lt_dif e h]
    exact lt_down 3 (by intro h2; apply h; unfold dg; rw [h2])
  have L2 : dg a 5 = dg b 5 → dg a 4 = dg b 4 → dg a 3 = dg b 3 → dg a 2 ≠ dg b 2 → decide (dg a 2 < dg b 2) = decide (a < b) := fun h5 h4 h3 h => by
    have e : qd a 3 = qd b 3 := (lt_eq (lt_eq (lt_eq t6 h5) h4) h3)
    rw [lt_dif e h]
    exact lt_down 2 (by intro h2; apply h; unfold dg; rw [h2])
  have L1 : dg a 5 = dg b 5 → dg a 4 = dg b 4 → dg a 3 = dg b 3 → dg a 2 = dg b 2 → dg a 1 ≠ dg b 1 → decide (dg a 1 < dg b 1) = decide (a < b) := fun h5 h4 h3 h2 h => by
    have e : qd a 2 = qd b 2 := (lt_eq (lt_eq (lt_eq (lt_eq t6 h5) h4) h3) h2)
    rw [lt_dif e h]
    exact lt_down 1 (by intro h2; apply h; unfold dg; rw [h2])
  have L0 : dg a 5 = dg b 5 → dg a 4 = dg b 4 → dg a 3 = dg b 3 → dg a 2 = dg b 2 → dg a 1 = dg b 1 → dg a 0 ≠ dg b 0 → decide (dg a 0 < dg b 0) = decide (a < b) := fun h5 h4 h3 h2 h1 h => by
    have e : qd a 1 = qd b 1 := (lt_eq (lt_eq (lt_eq (lt_eq (lt_eq t6 h5) h4) h3) h2) h1)
    rw [lt_dif e h]
    exact lt_down 0 (by intro h2; apply h; unfold dg; rw [h2])
  have LE : dg a 5 = dg b 5 → dg a 4 = dg b 4 → dg a 3 = dg b 3 → dg a 2 = dg b 2 → dg a 1 = dg b 1 → dg a 0 = dg b 0 → false = decide (a < b) := fun h5 h4 h3 h2 h1 h0 => by
    have e : qd a 0 = qd b 0 := (lt_eq (lt_eq (lt_eq (lt_eq (lt_eq (lt_eq t6 h5) h4) h3) h2) h1) h0)
    simp only [qd] at e
    rw [e]; simp
  clear t6 ha hb
  replace L0 := Lib.hid L0
  replace L1 := Lib.hid L1
  replace L2 := Lib.hid L2
  replace L3 := Lib.hid L3
  replace L4 := Lib.hid L4
  replace L5 := Lib.hid L5
  replace LE := Lib.hid LE
  unfold BG
  generalize dg a 0 = p0 at *
  generalize dg b 0 = q0 at *
  generalize dg a 1 = p1 at *
  generalize dg b 1 = q1 at *
  generalize dg a 2 = p2 at *
  generalize dg b 2 = q2 at *
  generalize dg a 3 = p3 at *
  generalize dg b 3 = q3 at *
  generalize dg a 4 = p4 at *
  generalize dg b 4 = q4 at *
  generalize dg a 5 = p5 at *
  generalize dg b 5 = q5 at *
  generalize decide (a < b) = res at *
  go_enter Try.func51, Try.ntmps51
  go_wp2
  refine wp_loop_rounds 7 ?_
  rw [rounds_succ]
  by_cases h5 : p5 = q5
  rotate_left
  · have e := L5.out  h5
    have hn1 : (p5 != q5) = true := by simpa using h5
    have hn2 : (p5 == q5) = false := by simpa using h5
    have he := Lib.hid e
    clear e
    go_wp2
    go_quiet (fail)
    go_wp2
    go_quiet (fail)
    go_wp2
    go_ret
    exact ⟨by first | rfl | rw [← he.out]; rfl, by (repeat first | assumption | exact Below.refl _ _ | refine Below.drew ?_ | refine Below.drewN ?_ _ | refine Below.alloc ?_ (by (first | omega | (simp; done) | (simp; omega))) _ | refine Below.setCell ?_ (by (first | omega | (simp; done) | (simp; omega))) _ | refine Below.trans ?_ (Below.mono (by assumption) (by (first | omega | (simp; done) | (simp; omega)))))⟩
  have hp : True := trivial
  go_wp2
  go_quiet (fail)
  go_wp2
  rw [rounds_succ]
  by_cases h4 : p4 = q4
  rotate_left
  · have e := L4.out h5 h4
    have hn1 : (p4 != q4) = true := by simpa using h4
    have hn2 : (p4 == q4) = false := by simpa using h4
    have he := Lib.hid e
    clear e
    go_wp2
    go_quiet (fail)
    go_wp2
    go_quiet (fail)
    go_wp2
    go_ret
    exact ⟨by first | rfl | rw [← he.out]; rfl, by (repeat first | assumption | exact Below.refl _ _ | refine Below.drew ?_ | refine Below.drewN ?_ _ | refine Below.alloc ?_ (by (first | omega | (simp; done) | (simp; omega))) _ | refine Below.setCell ?_ (by (first | omega | (simp; done) | (simp; omega))) _ | refine Below.trans ?_ (Below.mono (by assumption) (by (first | omega | (simp; done) | (simp; omega)))))⟩
  have hp : True := trivial
  go_wp2
  go_quiet (fail)
  go_wp2
  rw [rounds_succ]
  by_cases h3 : p3 = q3
  rotate_left
  · have e := L3.out h5 h4 h3
    have hn1 : (p3 != q3) = true := by simpa using h3
    have hn2 : (p3 == q3) = false := by simpa using h3
    have he := Lib.hid e
    clear e
    go_wp2
    go_quiet (fail)
    go_wp2
    go_quiet (fail)
    go_wp2
    go_ret
    exact ⟨by first | rfl | rw [← he.out]; rfl, by (repeat first | assumption | exact Below.refl _ _ | refine Below.drew ?_ | refine Below.drewN ?_ _ | refine Below.alloc ?_ (by (first | omega | (simp; done) | (simp; omega))) _ | refine Below.setCell ?_ (by (first | omega | (simp; done) | (simp; omega))) _ | refine Below.trans ?_ (Below.mono (by assumption) (by (first | omega | (simp; done) | (simp; omega)))))⟩
  have hp : True := trivial
  go_wp2
  go_quiet (fail)
  go_wp2
  rw [rounds_succ]
  by_cases h2 : p2 = q2
  rotate_left
  · have e := L2.out h5 h4 h3 h2
    have hn1 : (p2 != q2) = true := by simpa using h2
    have hn2 : (p2 == q2) = false := by simpa using h2
    have he := Lib.hid e
    clear e
    go_wp2
    go_quiet (fail)
    go_wp2
    go_quiet (fail)
    go_wp2
    go_ret
    exact ⟨by first | rfl | rw [← he.out]; rfl, by (repeat first | assumption | exact Below.refl _ _ | refine Below.drew ?_ | refine Below.drewN ?_ _ | refine Below.alloc ?_ (by (first | omega | (simp; done) | (simp; omega))) _ | refine Below.setCell ?_ (by (first | omega | (simp; done) | (simp; omega))) _ | refine Below.trans ?_ (Below.mono (by assumption) (by (first | omega | (simp; done) | (simp; omega)))))⟩
  have hp : True := trivial
  go_wp2
  go_quiet (fail)
  go_wp2
  rw [rounds_succ]
  by_cases h1 : p1 = q1
  rotate_left
  · have e := L1.out h5 h4 h3 h2 h1
    have hn1 : (p1 != q1) = true := by simpa using h1
    have hn2 : (p1 == q1) = false := by simpa using h1
    have he := Lib.hid e
    clear e
    go_wp2
    go_quiet (fail)
    go_wp2
    go_quiet (fail)
    go_wp2
    go_ret
    exact ⟨by first | rfl | rw [← he.out]; rfl, by (repeat first | assumption | exact Below.refl _ _ | refine Below.drew ?_ | refine Below.drewN ?_ _ | refine Below.alloc ?_ (by (first | omega | (simp; done) | (simp; omega))) _ | refine Below.setCell ?_ (by (first | omega | (simp; done) | (simp; omega))) _ | refine Below.trans ?_ (Below.mono (by assumption) (by (first | omega | (simp; done) | (simp; omega)))))⟩
  have hp : True := trivial
  go_wp2
  go_quiet (fail)
  go_wp2
  rw [rounds_succ]
  by_cases h0 : p0 = q0
  rotate_left
  · have e := L0.out h5 h4 h3 h2 h1 h0
    have hn1 : (p0 != q0) = true := by simpa using h0
    have hn2 : (p0 == q0) = false := by simpa using h0
    have he := Lib.hid e
    clear e
    go_wp2
    go_quiet (fail)
    go_wp2
    go_quiet (fail)
    go_wp2
    go_ret
    exact ⟨by first | rfl | rw [← he.out]; rfl, by (repeat first | assumption | exact Below.refl _ _ | refine Below.drew ?_ | refine Below.drewN ?_ _ | refine Below.alloc ?_ (by (first | omega | (simp; done) | (simp; omega))) _ | refine Below.setCell ?_ (by (first | omega | (simp; done) | (simp; omega))) _ | refine Below.trans ?_ (Below.mono (by assumption) (by (first | omega | (simp; done) | (simp; omega)))))⟩
  have hp : True := trivial
  go_wp2
  go_quiet (fail)
  go_wp2
  rw [rounds_succ]
  go_wp2
  go_ret
  exact ⟨by rw [← LE.out h5 h4 h3 h2 h1 h0]; rfl, by (repeat first | assumption | exact Below.refl _ _ | refine Below.drew ?_ | refine Below.drewN ?_ _ | refine Below.alloc ?_ (by (first | omega | (simp; done) | (simp; omega))) _ | refine Below.setCell ?_ (by (first | omega | (simp; done) | (simp; omega))) _ | refine Below.trans ?_ (Below.mono (by assumption) (by (first | omega | (simp; done) | (simp; omega)))))⟩
end Go.Proofs.Ytkmfdggodinjaaa