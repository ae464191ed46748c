/-
  Layer wide: quotients, to the nearest.
-/
import Derived.Test.YtkmfdggodinjaaaDivA
import Derived.Test.YtkmfdggodinjaaaWideB
namespace Go.Proofs.Ytkmfdggodinjaaa
open Go.RowKit
set_option linter.unusedVariables false
set_option linter.unusedSimpArgs false

/-- How far a number is from 0. -/
def absZ (v : Int) : Int := if v < 0 then -v else v
theorem absZ_bd {v : Int} (h : -170141183460469231731687303715884105728 < v ∧ v < 170141183460469231731687303715884105728) : 0 ≤ absZ v ∧ absZ v < 170141183460469231731687303715884105728 := by unfold absZ; split <;> omega

set_option maxHeartbeats 800000 in
set_option maxRecDepth 100000 in
theorem size_any (v : Int) (w : World) (h : -170141183460469231731687303715884105728 < v ∧ v < 170141183460469231731687303715884105728) :
    Calls Try.prog 78 #[W v] w fun e w' => e = .returned (.tuple #[.int .u64 (absZ v / 18446744073709551616), .int .u64 (absZ v % 18446744073709551616)]) ∧ Below w.heap.size w w' := by
  have hw := whi_eq (v := v) (by unfold I128; omega)
  by_cases h0 : v < 0
  · have HN := Lib.hid (fun w => Neg_any v w)
    have hneg : whi v < 0 := by rw [hw]; omega
    have e1 : Hid (IntKind.u64.wrap (whi (-v)) = absZ v / 18446744073709551616) := Lib.hid (by unfold absZ; rw [if_pos h0, whi_eq (by unfold I128; omega), IntKind.wrap_u64]; omega)
    have e2 : Hid (wlo (-v) = absZ v % 18446744073709551616) := Lib.hid (by unfold absZ wlo; rw [if_pos h0])
    clear h hw h0
    unfold W at *
    go_enter Try.func78, Try.ntmps78
    go_wp2_with fail
    ((with_reducible refine (HN.out _).mono ?_); rintro e w1 ⟨rfl, hb1⟩)
    obtain ⟨hc1, hf1⟩ := bcell hb1
    have hz1 := hb1.size
    simp at hz1 hc1 hf1
    have g0 : w1.cell? ⟨w.heap.size, 0, none⟩ = some (.int .i64 (whi v)) := by rw [hc1 _ _ (by omega)]; go_simp
    have g1 : w1.cell? ⟨w.heap.size, 1, none⟩ = some (.int .u64 (wlo v)) := by rw [hc1 _ _ (by omega)]; go_simp
    have f0 : ∀ i, w1.frozen? ⟨w.heap.size, i, none⟩ = false := fun i => by rw [hf1 _ _ (by omega)]; go_simp
    go_wp2
    go_region
    all_goals go_wp2
    all_goals go_ret2
    all_goals (refine ⟨?_, by (repeat first | assumption | exact Below.refl _ _ | refine Below.drew ?_ | refine Below.drewN ?_ _ | refine Below.alloc ?_ (by (first | omega | (simp; done) | (simp; omega))) _ | refine Below.setCell ?_ (by (first | omega | (simp; done) | (simp; omega))) _ | refine Below.trans ?_ (Below.mono (by assumption) (by (first | omega | (simp; done) | (simp; omega)))))⟩; simp only [e1.out, e2.out]; rfl)
  · have hneg : ¬ whi v < 0 := by rw [hw]; omega
    have e1 : Hid (IntKind.u64.wrap (whi v) = absZ v / 18446744073709551616) := Lib.hid (by unfold absZ; rw [if_neg h0, hw, IntKind.wrap_u64]; omega)
    have e2 : Hid (wlo v = absZ v % 18446744073709551616) := Lib.hid (by unfold absZ wlo; rw [if_neg h0])
    clear h hw h0
    unfold W at *
    go_enter Try.func78, Try.ntmps78
    go_wp2
    go_region
    all_goals go_wp2
    all_goals go_ret2
    all_goals (refine ⟨?_, by (repeat first | assumption | exact Below.refl _ _ | refine Below.drew ?_ | refine Below.drewN ?_ _ | refine Below.alloc ?_ (by (first | omega | (simp; done) | (simp; omega))) _ | refine Below.setCell ?_ (by (first | omega | (simp; done) | (simp; omega))) _ | refine Below.trans ?_ (Below.mono (by assumption) (by (first | omega | (simp; done) | (simp; omega)))))⟩; simp only [e1.out, e2.out]; rfl)

/-- What a quotient is put together of. -/
theorem quo_parts {m d : Int} (hm : 0 ≤ m ∧ m < 1267650600228229401496703205376) (hd : 0 < d) (hd2 : d ≤ 64) :
    ∃ t b r : Int, m / 18446744073709551616 / d = t ∧ (m / 18446744073709551616 % d * 18446744073709551616 + m % 18446744073709551616) / d = b ∧ (m / 18446744073709551616 % d * 18446744073709551616 + m % 18446744073709551616) % d = r ∧
      0 ≤ t ∧ t < 18446744073709551616 ∧ 0 ≤ b ∧ b < 18446744073709551616 ∧ 0 ≤ r ∧ r < d ∧ rne m d = if d - r < r ∨ r = d - r ∧ b % 2 = 1 then t * 18446744073709551616 + b + 1 else t * 18446744073709551616 + b := by
  have e1 : m / 18446744073709551616 * 18446744073709551616 + m % 18446744073709551616 = m := by omega
  obtain ⟨q1, q2⟩ := quo_words (m / 18446744073709551616) (m % 18446744073709551616) d hd
  have q3 := quo_low (h := m / 18446744073709551616) hd (show 0 ≤ m % 18446744073709551616 by omega) (by omega)
  have q4 := quo_rne (m := m) hd
  rw [e1] at q1 q2
  refine ⟨_, _, _, rfl, rfl, rfl, ?_, ?_, q3.1, q3.2, Int.emod_nonneg _ (by omega), Int.emod_lt_of_pos _ hd, ?_⟩
  · exact Int.ediv_nonneg (by omega) (by omega)
  · have := Int.ediv_le_self (a := m / 18446744073709551616) d (by omega); omega
  · rw [q4, q1, q2]
    generalize (m / 18446744073709551616 % d * 18446744073709551616 + m % 18446744073709551616) % d = r
    generalize (m / 18446744073709551616 % d * 18446744073709551616 + m % 18446744073709551616) / d = b
    generalize m / 18446744073709551616 / d = t
    have e2 : (t * 18446744073709551616 + b) % 2 = b % 2 := quo_even
    simp only [e2, gt_iff_lt]

set_option maxHeartbeats 3200000 in
set_option maxRecDepth 100000 in
theorem Quo_any (v d : Int) (w : World) (h : -1267650600228229401496703205376 < v ∧ v < 1267650600228229401496703205376) (hd : 0 < d) (hd2 : d ≤ 64) :
    Calls Try.prog 54 #[W v, .int .i64 d] w fun e w' => e = .returned (.tuple #[W (rne v d), .bool true]) ∧ Below w.heap.size w w' := by
  have HS := Lib.hid (fun w => size_any v w (by omega))
  have hab : 0 ≤ absZ v ∧ absZ v < 1267650600228229401496703205376 := by unfold absZ; split <;> omega
  obtain ⟨t, b, r, et, eb, er, t0, t1, b0, b1, r0, r1, eq⟩ := quo_parts hab hd hd2
  have hr : rne v d = if v < 0 then - rne (absZ v) d else rne (absZ v) d := by
    unfold absZ
    split
    · rw [rne_neg _ _ hd]; omega
    · rfl
  have hHn := Int.emod_nonneg (absZ v / 18446744073709551616) (b := d) (by omega)
  have hHl := Int.emod_lt_of_pos (absZ v / 18446744073709551616) hd
  have HD := Lib.hid (fun w => Div64_any (absZ v / 18446744073709551616 % d) (absZ v % 18446744073709551616) d w hHn hHl (by omega) (by omega) hd2)
  rw [eb, er] at HD
  have hh0 : 0 ≤ absZ v / 18446744073709551616 := by omega
  have hh1 : absZ v / 18446744073709551616 < 18446744073709551616 := by omega
  have hw : whi v = v / 18446744073709551616 := whi_eq (by unfold I128; omega)
  have et2 : Hid (IntKind.u64.wrap ((absZ v / 18446744073709551616).tdiv d) = t) := Lib.hid (by rw [Int.tdiv_eq_ediv_of_nonneg hh0, et, IntKind.wrap_u64]; omega)
  generalize absZ v / 18446744073709551616 = H at *
  have em2 : Hid (IntKind.u64.wrap (H.tmod d) = H % d) := Lib.hid (by rw [Int.tmod_eq_emod_of_nonneg hh0, IntKind.wrap_u64]; omega)
  generalize absZ v % 18446744073709551616 = L at *
  have hdr : IntKind.u64.wrap (d - r) = d - r := by rw [IntKind.wrap_u64]; omega
  have hd3 : decide (d < 0) = false := by rw [decide_eq_false_iff_not]; omega
  have hdi : IntKind.u64.wrap d = d := by rw [IntKind.wrap_u64]; omega
  have hodd := and_one_u64 b0 b1
  have HN := Lib.hid (fun w => Neg_any (rne (absZ v) d) w)
  have HA0 : ∀ w, (callFunc 80 #[.int .u64 b, .int .u64 1, .int .u64 0]).run Try.prog w = _ := fun w => add64 b 1 0 b0 (by omega) (by omega) (by omega) w
  clear h hab
  have hcs : (d - r < r) ∨ (¬ d - r < r ∧ (r == d - r) = true ∧ (b % 2 == 1) = true) ∨ (¬ d - r < r ∧ (r == d - r) = true ∧ (b % 2 == 1) = false) ∨ (¬ d - r < r ∧ (r == d - r) = false) := by
    simp only [beq_iff_eq, beq_eq_false_iff_ne]; omega
  by_cases hneg : v < 0
  · rw [if_pos hneg] at hr
    have hn : whi v < 0 := by rw [hw]; omega
    clear hneg hw
    rcases hcs with k1 | ⟨k1, k2, k3⟩ | ⟨k1, k2, k3⟩ | ⟨k1, k2⟩
    · have eq2 : rne (absZ v) d = t * 18446744073709551616 + b + 1 := by
        rw [eq]
        rw [if_pos (by omega)]
      rw [eq2] at hr HN
      have ehi : Hid (whi (t * 18446744073709551616 + b + 1) = wrap64 (IntKind.u64.wrap (t + (b + 1) / 18446744073709551616))) := Lib.hid (by unfold whi wrap64; (try rw [IntKind.wrap_u64]); omega)
      have elo : Hid (wlo (t * 18446744073709551616 + b + 1) = (b + 1) % 18446744073709551616) := Lib.hid (by unfold wlo; omega)
      clear eq eq2
      generalize hq : t * 18446744073709551616 + b + 1 = q at *
      clear hq
      unfold W at *
      rw [hr]
      rw [ehi.out, elo.out] at HN
      go_enter Try.func54, Try.ntmps54
      go_wp2_with fail
      ((with_reducible refine (HS.out _).mono ?_); rintro e w1 ⟨rfl, hb1⟩)
      obtain ⟨hc1, hf1⟩ := bcell hb1
      have hz1 := hb1.size
      (try simp at hz1 hc1 hf1)
      have k10 : w1.cell? ⟨w.heap.size, 0, none⟩ = some (.int .i64 (whi v)) := by rw [hc1 _ _ (by omega)]; go_simp
      have m10 : w1.cell? ⟨w.heap.size + 1, 0, none⟩ = some (.int .i64 0) := by rw [hc1 _ _ (by omega)]; go_simp
      have m11 : w1.cell? ⟨w.heap.size + 1, 1, none⟩ = some (.int .u64 0) := by rw [hc1 _ _ (by omega)]; go_simp
      have mf1 : ∀ i, w1.frozen? ⟨w.heap.size + 1, i, none⟩ = false := fun i => by rw [hf1 _ _ (by omega)]; go_simp
      have Hb1 : Hid (Below w.heap.size w w1) := Lib.hid (by (repeat first | assumption | exact Below.refl _ _ | refine Below.drew ?_ | refine Below.drewN ?_ _ | refine Below.alloc ?_ (by (first | omega | (simp; done) | (simp; omega))) _ | refine Below.setCell ?_ (by (first | omega | (simp; done) | (simp; omega))) _ | refine Below.trans ?_ (Below.mono (by assumption) (by (first | omega | (simp; done) | (simp; omega))))))
      clear hb1 hc1 hf1
      go_wp2_with fail
      ((with_reducible refine (HD.out _).mono ?_); rintro e w2 ⟨rfl, hb2⟩)
      obtain ⟨hc2, hf2⟩ := bcell hb2
      have hz2 := hb2.size
      have k20 : w2.cell? ⟨w.heap.size, 0, none⟩ = some (.int .i64 (whi v)) := by rw [hc2 _ _ (by omega)]; exact k10
      have m20 : w2.cell? ⟨w.heap.size + 1, 0, none⟩ = some (.int .i64 0) := by rw [hc2 _ _ (by omega)]; exact m10
      have m21 : w2.cell? ⟨w.heap.size + 1, 1, none⟩ = some (.int .u64 0) := by rw [hc2 _ _ (by omega)]; exact m11
      have mf2 : ∀ i, w2.frozen? ⟨w.heap.size + 1, i, none⟩ = false := fun i => by rw [hf2 _ _ (by omega)]; exact mf1 i
      have Hb2 : Hid (Below w.heap.size w w2) := Lib.hid (Hb1.out.trans (hb2.mono (by omega)))
      have lt2 : w.heap.size < w2.heap.size := by omega
      have lt2b : w.heap.size + 1 < w2.heap.size := by omega
      clear hb2 hc2 hf2 k10 m10 m11 mf1 Hb1 hz1 hz2
      go_wp2_with fail
      ((with_reducible refine (HN.out _).mono ?_); rintro e w3 ⟨rfl, hb3⟩)
      obtain ⟨hc3, hf3⟩ := bcell hb3
      have hz3 := hb3.size
      (try simp at hz3 hc3 hf3)
      have m30 : w3.cell? ⟨w.heap.size + 1, 0, none⟩ = some (.int .i64 0) := by rw [hc3 _ _ (by omega)]; go_simp
      have m31 : w3.cell? ⟨w.heap.size + 1, 1, none⟩ = some (.int .u64 0) := by rw [hc3 _ _ (by omega)]; go_simp
      have mf3 : ∀ i, w3.frozen? ⟨w.heap.size + 1, i, none⟩ = false := fun i => by rw [hf3 _ _ (by omega)]; go_simp
      have n30 : w3.cell? ⟨w2.heap.size, 0, none⟩ = some (.int .i64 (wrap64 (IntKind.u64.wrap (t + (b + 1) / 18446744073709551616)))) := by rw [hc3 _ _ (by omega)]; go_simp
      have n31 : w3.cell? ⟨w2.heap.size, 1, none⟩ = some (.int .u64 ((b + 1) % 18446744073709551616)) := by rw [hc3 _ _ (by omega)]; go_simp
      have nf3 : ∀ i, w3.frozen? ⟨w2.heap.size, i, none⟩ = false := fun i => by rw [hf3 _ _ (by omega)]; go_simp
      have Hb3 : Hid (Below w.heap.size w w3) := Lib.hid (by have := Hb2.out; (repeat first | assumption | exact Below.refl _ _ | refine Below.drew ?_ | refine Below.drewN ?_ _ | refine Below.alloc ?_ (by (first | omega | (simp; done) | (simp; omega))) _ | refine Below.setCell ?_ (by (first | omega | (simp; done) | (simp; omega))) _ | refine Below.trans ?_ (Below.mono (by assumption) (by (first | omega | (simp; done) | (simp; omega))))))
      clear hb3 hc3 hf3 Hb2
      have p0 : ((w3.setCell ⟨w2.heap.size, 0, none⟩ (.int .i64 (whi (-q)))).setCell ⟨w2.heap.size, 1, none⟩ (.int .u64 (wlo (-q)))).cell? ⟨w.heap.size + 1, 0, none⟩ = some (.int .i64 0) := by rw [World.cell?_setCell_far _ _ _ _ (by simp; omega), World.cell?_setCell_far _ _ _ _ (by simp; omega)]; exact m30
      have p1 : ((w3.setCell ⟨w2.heap.size, 0, none⟩ (.int .i64 (whi (-q)))).setCell ⟨w2.heap.size, 1, none⟩ (.int .u64 (wlo (-q)))).cell? ⟨w.heap.size + 1, 1, none⟩ = some (.int .u64 0) := by rw [World.cell?_setCell_far _ _ _ _ (by simp; omega), World.cell?_setCell_far _ _ _ _ (by simp; omega)]; exact m31
      have e01 : ((((w3.setCell ⟨w2.heap.size, 0, none⟩ (.int .i64 (whi (-q)))).setCell ⟨w2.heap.size, 1, none⟩ (.int .u64 (wlo (-q)))).setCell ⟨w.heap.size + 1, 0, none⟩ (.int .i64 (whi (-q)))).setCell ⟨w.heap.size + 1, 1, none⟩ (.int .u64 (wlo (-q)))).cell? ⟨w.heap.size + 1, 0, none⟩ = some (.int .i64 (whi (-q))) ∧ ((((w3.setCell ⟨w2.heap.size, 0, none⟩ (.int .i64 (whi (-q)))).setCell ⟨w2.heap.size, 1, none⟩ (.int .u64 (wlo (-q)))).setCell ⟨w.heap.size + 1, 0, none⟩ (.int .i64 (whi (-q)))).setCell ⟨w.heap.size + 1, 1, none⟩ (.int .u64 (wlo (-q)))).cell? ⟨w.heap.size + 1, 1, none⟩ = some (.int .u64 (wlo (-q))) := by
        generalize ((w3.setCell ⟨w2.heap.size, 0, none⟩ (.int .i64 (whi (-q)))).setCell ⟨w2.heap.size, 1, none⟩ (.int .u64 (wlo (-q)))) = W5 at *
        exact ⟨by go_simp, by go_simp⟩
      obtain ⟨e0, e1⟩ := e01
      clear p0 p1
      go_wp2
      refine bodyPost_ret (v := .tuple #[.agg #[.int .i64 (whi (-q)), .int .u64 (wlo (-q))], .bool true]) (by simp [results, Try.results54, go_sem, e0, e1]) rfl ⟨rfl, by have := Hb3.out; (repeat first | assumption | exact Below.refl _ _ | refine Below.drew ?_ | refine Below.drewN ?_ _ | refine Below.alloc ?_ (by (first | omega | (simp; done) | (simp; omega))) _ | refine Below.setCell ?_ (by (first | omega | (simp; done) | (simp; omega))) _ | refine Below.trans ?_ (Below.mono (by assumption) (by (first | omega | (simp; done) | (simp; omega)))))⟩
    · have eq2 : rne (absZ v) d = t * 18446744073709551616 + b + 1 := by
        rw [eq]
        rw [if_pos (by simp only [beq_iff_eq] at k2 k3; omega)]
      rw [eq2] at hr HN
      have ehi : Hid (whi (t * 18446744073709551616 + b + 1) = wrap64 (IntKind.u64.wrap (t + (b + 1) / 18446744073709551616))) := Lib.hid (by unfold whi wrap64; (try rw [IntKind.wrap_u64]); omega)
      have elo : Hid (wlo (t * 18446744073709551616 + b + 1) = (b + 1) % 18446744073709551616) := Lib.hid (by unfold wlo; omega)
      clear eq eq2
      generalize hq : t * 18446744073709551616 + b + 1 = q at *
      clear hq
      unfold W at *
      rw [hr]
      rw [ehi.out, elo.out] at HN
      go_enter Try.func54, Try.ntmps54
      go_wp2_with fail
      ((with_reducible refine (HS.out _).mono ?_); rintro e w1 ⟨rfl, hb1⟩)
      obtain ⟨hc1, hf1⟩ := bcell hb1
      have hz1 := hb1.size
      (try simp at hz1 hc1 hf1)
      have k10 : w1.cell? ⟨w.heap.size, 0, none⟩ = some (.int .i64 (whi v)) := by rw [hc1 _ _ (by omega)]; go_simp
      have m10 : w1.cell? ⟨w.heap.size + 1, 0, none⟩ = some (.int .i64 0) := by rw [hc1 _ _ (by omega)]; go_simp
      have m11 : w1.cell? ⟨w.heap.size + 1, 1, none⟩ = some (.int .u64 0) := by rw [hc1 _ _ (by omega)]; go_simp
      have mf1 : ∀ i, w1.frozen? ⟨w.heap.size + 1, i, none⟩ = false := fun i => by rw [hf1 _ _ (by omega)]; go_simp
      have Hb1 : Hid (Below w.heap.size w w1) := Lib.hid (by (repeat first | assumption | exact Below.refl _ _ | refine Below.drew ?_ | refine Below.drewN ?_ _ | refine Below.alloc ?_ (by (first | omega | (simp; done) | (simp; omega))) _ | refine Below.setCell ?_ (by (first | omega | (simp; done) | (simp; omega))) _ | refine Below.trans ?_ (Below.mono (by assumption) (by (first | omega | (simp; done) | (simp; omega))))))
      clear hb1 hc1 hf1
      go_wp2_with fail
      ((with_reducible refine (HD.out _).mono ?_); rintro e w2 ⟨rfl, hb2⟩)
      obtain ⟨hc2, hf2⟩ := bcell hb2
      have hz2 := hb2.size
      have k20 : w2.cell? ⟨w.heap.size, 0, none⟩ = some (.int .i64 (whi v)) := by rw [hc2 _ _ (by omega)]; exact k10
      have m20 : w2.cell? ⟨w.heap.size + 1, 0, none⟩ = some (.int .i64 0) := by rw [hc2 _ _ (by omega)]; exact m10
      have m21 : w2.cell? ⟨w.heap.size + 1, 1, none⟩ = some (.int .u64 0) := by rw [hc2 _ _ (by omega)]; exact m11
      have mf2 : ∀ i, w2.frozen? ⟨w.heap.size + 1, i, none⟩ = false := fun i => by rw [hf2 _ _ (by omega)]; exact mf1 i
      have Hb2 : Hid (Below w.heap.size w w2) := Lib.hid (Hb1.out.trans (hb2.mono (by omega)))
      have lt2 : w.heap.size < w2.heap.size := by omega
      have lt2b : w.heap.size + 1 < w2.heap.size := by omega
      clear hb2 hc2 hf2 k10 m10 m11 mf1 Hb1 hz1 hz2
      go_wp2_with fail
      ((with_reducible refine (HN.out _).mono ?_); rintro e w3 ⟨rfl, hb3⟩)
      obtain ⟨hc3, hf3⟩ := bcell hb3
      have hz3 := hb3.size
      (try simp at hz3 hc3 hf3)
      have m30 : w3.cell? ⟨w.heap.size + 1, 0, none⟩ = some (.int .i64 0) := by rw [hc3 _ _ (by omega)]; go_simp
      have m31 : w3.cell? ⟨w.heap.size + 1, 1, none⟩ = some (.int .u64 0) := by rw [hc3 _ _ (by omega)]; go_simp
      have mf3 : ∀ i, w3.frozen? ⟨w.heap.size + 1, i, none⟩ = false := fun i => by rw [hf3 _ _ (by omega)]; go_simp
      have n30 : w3.cell? ⟨w2.heap.size, 0, none⟩ = some (.int .i64 (wrap64 (IntKind.u64.wrap (t + (b + 1) / 18446744073709551616)))) := by rw [hc3 _ _ (by omega)]; go_simp
      have n31 : w3.cell? ⟨w2.heap.size, 1, none⟩ = some (.int .u64 ((b + 1) % 18446744073709551616)) := by rw [hc3 _ _ (by omega)]; go_simp
      have nf3 : ∀ i, w3.frozen? ⟨w2.heap.size, i, none⟩ = false := fun i => by rw [hf3 _ _ (by omega)]; go_simp
      have Hb3 : Hid (Below w.heap.size w w3) := Lib.hid (by have := Hb2.out; (repeat first | assumption | exact Below.refl _ _ | refine Below.drew ?_ | refine Below.drewN ?_ _ | refine Below.alloc ?_ (by (first | omega | (simp; done) | (simp; omega))) _ | refine Below.setCell ?_ (by (first | omega | (simp; done) | (simp; omega))) _ | refine Below.trans ?_ (Below.mono (by assumption) (by (first | omega | (simp; done) | (simp; omega))))))
      clear hb3 hc3 hf3 Hb2
      have p0 : ((w3.setCell ⟨w2.heap.size, 0, none⟩ (.int .i64 (whi (-q)))).setCell ⟨w2.heap.size, 1, none⟩ (.int .u64 (wlo (-q)))).cell? ⟨w.heap.size + 1, 0, none⟩ = some (.int .i64 0) := by rw [World.cell?_setCell_far _ _ _ _ (by simp; omega), World.cell?_setCell_far _ _ _ _ (by simp; omega)]; exact m30
      have p1 : ((w3.setCell ⟨w2.heap.size, 0, none⟩ (.int .i64 (whi (-q)))).setCell ⟨w2.heap.size, 1, none⟩ (.int .u64 (wlo (-q)))).cell? ⟨w.heap.size + 1, 1, none⟩ = some (.int .u64 0) := by rw [World.cell?_setCell_far _ _ _ _ (by simp; omega), World.cell?_setCell_far _ _ _ _ (by simp; omega)]; exact m31
      have e01 : ((((w3.setCell ⟨w2.heap.size, 0, none⟩ (.int .i64 (whi (-q)))).setCell ⟨w2.heap.size, 1, none⟩ (.int .u64 (wlo (-q)))).setCell ⟨w.heap.size + 1, 0, none⟩ (.int .i64 (whi (-q)))).setCell ⟨w.heap.size + 1, 1, none⟩ (.int .u64 (wlo (-q)))).cell? ⟨w.heap.size + 1, 0, none⟩ = some (.int .i64 (whi (-q))) ∧ ((((w3.setCell ⟨w2.heap.size, 0, none⟩ (.int .i64 (whi (-q)))).setCell ⟨w2.heap.size, 1, none⟩ (.int .u64 (wlo (-q)))).setCell ⟨w.heap.size + 1, 0, none⟩ (.int .i64 (whi (-q)))).setCell ⟨w.heap.size + 1, 1, none⟩ (.int .u64 (wlo (-q)))).cell? ⟨w.heap.size + 1, 1, none⟩ = some (.int .u64 (wlo (-q))) := by
        generalize ((w3.setCell ⟨w2.heap.size, 0, none⟩ (.int .i64 (whi (-q)))).setCell ⟨w2.heap.size, 1, none⟩ (.int .u64 (wlo (-q)))) = W5 at *
        exact ⟨by go_simp, by go_simp⟩
      obtain ⟨e0, e1⟩ := e01
      clear p0 p1
      go_wp2
      refine bodyPost_ret (v := .tuple #[.agg #[.int .i64 (whi (-q)), .int .u64 (wlo (-q))], .bool true]) (by simp [results, Try.results54, go_sem, e0, e1]) rfl ⟨rfl, by have := Hb3.out; (repeat first | assumption | exact Below.refl _ _ | refine Below.drew ?_ | refine Below.drewN ?_ _ | refine Below.alloc ?_ (by (first | omega | (simp; done) | (simp; omega))) _ | refine Below.setCell ?_ (by (first | omega | (simp; done) | (simp; omega))) _ | refine Below.trans ?_ (Below.mono (by assumption) (by (first | omega | (simp; done) | (simp; omega)))))⟩
    · have eq2 : rne (absZ v) d = t * 18446744073709551616 + b := by
        rw [eq]
        rw [if_neg (by simp only [beq_iff_eq, beq_eq_false_iff_ne] at k2 k3; omega)]
      rw [eq2] at hr HN
      have ehi : Hid (whi (t * 18446744073709551616 + b) = wrap64 (t)) := Lib.hid (by unfold whi wrap64; (try rw [IntKind.wrap_u64]); omega)
      have elo : Hid (wlo (t * 18446744073709551616 + b) = b) := Lib.hid (by unfold wlo; omega)
      clear eq eq2
      generalize hq : t * 18446744073709551616 + b = q at *
      clear hq
      unfold W at *
      rw [hr]
      rw [ehi.out, elo.out] at HN
      go_enter Try.func54, Try.ntmps54
      go_wp2_with fail
      ((with_reducible refine (HS.out _).mono ?_); rintro e w1 ⟨rfl, hb1⟩)
      obtain ⟨hc1, hf1⟩ := bcell hb1
      have hz1 := hb1.size
      (try simp at hz1 hc1 hf1)
      have k10 : w1.cell? ⟨w.heap.size, 0, none⟩ = some (.int .i64 (whi v)) := by rw [hc1 _ _ (by omega)]; go_simp
      have m10 : w1.cell? ⟨w.heap.size + 1, 0, none⟩ = some (.int .i64 0) := by rw [hc1 _ _ (by omega)]; go_simp
      have m11 : w1.cell? ⟨w.heap.size + 1, 1, none⟩ = some (.int .u64 0) := by rw [hc1 _ _ (by omega)]; go_simp
      have mf1 : ∀ i, w1.frozen? ⟨w.heap.size + 1, i, none⟩ = false := fun i => by rw [hf1 _ _ (by omega)]; go_simp
      have Hb1 : Hid (Below w.heap.size w w1) := Lib.hid (by (repeat first | assumption | exact Below.refl _ _ | refine Below.drew ?_ | refine Below.drewN ?_ _ | refine Below.alloc ?_ (by (first | omega | (simp; done) | (simp; omega))) _ | refine Below.setCell ?_ (by (first | omega | (simp; done) | (simp; omega))) _ | refine Below.trans ?_ (Below.mono (by assumption) (by (first | omega | (simp; done) | (simp; omega))))))
      clear hb1 hc1 hf1
      go_wp2_with fail
      ((with_reducible refine (HD.out _).mono ?_); rintro e w2 ⟨rfl, hb2⟩)
      obtain ⟨hc2, hf2⟩ := bcell hb2
      have hz2 := hb2.size
      have k20 : w2.cell? ⟨w.heap.size, 0, none⟩ = some (.int .i64 (whi v)) := by rw [hc2 _ _ (by omega)]; exact k10
      have m20 : w2.cell? ⟨w.heap.size + 1, 0, none⟩ = some (.int .i64 0) := by rw [hc2 _ _ (by omega)]; exact m10
      have m21 : w2.cell? ⟨w.heap.size + 1, 1, none⟩ = some (.int .u64 0) := by rw [hc2 _ _ (by omega)]; exact m11
      have mf2 : ∀ i, w2.frozen? ⟨w.heap.size + 1, i, none⟩ = false := fun i => by rw [hf2 _ _ (by omega)]; exact mf1 i
      have Hb2 : Hid (Below w.heap.size w w2) := Lib.hid (Hb1.out.trans (hb2.mono (by omega)))
      have lt2 : w.heap.size < w2.heap.size := by omega
      have lt2b : w.heap.size + 1 < w2.heap.size := by omega
      clear hb2 hc2 hf2 k10 m10 m11 mf1 Hb1 hz1 hz2
      go_wp2_with fail
      ((with_reducible refine (HN.out _).mono ?_); rintro e w3 ⟨rfl, hb3⟩)
      obtain ⟨hc3, hf3⟩ := bcell hb3
      have hz3 := hb3.size
      (try simp at hz3 hc3 hf3)
      have m30 : w3.cell? ⟨w.heap.size + 1, 0, none⟩ = some (.int .i64 0) := by rw [hc3 _ _ (by omega)]; go_simp
      have m31 : w3.cell? ⟨w.heap.size + 1, 1, none⟩ = some (.int .u64 0) := by rw [hc3 _ _ (by omega)]; go_simp
      have mf3 : ∀ i, w3.frozen? ⟨w.heap.size + 1, i, none⟩ = false := fun i => by rw [hf3 _ _ (by omega)]; go_simp
      have n30 : w3.cell? ⟨w2.heap.size, 0, none⟩ = some (.int .i64 (wrap64 (t))) := by rw [hc3 _ _ (by omega)]; go_simp
      have n31 : w3.cell? ⟨w2.heap.size, 1, none⟩ = some (.int .u64 (b)) := by rw [hc3 _ _ (by omega)]; go_simp
      have nf3 : ∀ i, w3.frozen? ⟨w2.heap.size, i, none⟩ = false := fun i => by rw [hf3 _ _ (by omega)]; go_simp
      have Hb3 : Hid (Below w.heap.size w w3) := Lib.hid (by have := Hb2.out; (repeat first | assumption | exact Below.refl _ _ | refine Below.drew ?_ | refine Below.drewN ?_ _ | refine Below.alloc ?_ (by (first | omega | (simp; done) | (simp; omega))) _ | refine Below.setCell ?_ (by (first | omega | (simp; done) | (simp; omega))) _ | refine Below.trans ?_ (Below.mono (by assumption) (by (first | omega | (simp; done) | (simp; omega))))))
      clear hb3 hc3 hf3 Hb2
      have p0 : ((w3.setCell ⟨w2.heap.size, 0, none⟩ (.int .i64 (whi (-q)))).setCell ⟨w2.heap.size, 1, none⟩ (.int .u64 (wlo (-q)))).cell? ⟨w.heap.size + 1, 0, none⟩ = some (.int .i64 0) := by rw [World.cell?_setCell_far _ _ _ _ (by simp; omega), World.cell?_setCell_far _ _ _ _ (by simp; omega)]; exact m30
      have p1 : ((w3.setCell ⟨w2.heap.size, 0, none⟩ (.int .i64 (whi (-q)))).setCell ⟨w2.heap.size, 1, none⟩ (.int .u64 (wlo (-q)))).cell? ⟨w.heap.size + 1, 1, none⟩ = some (.int .u64 0) := by rw [World.cell?_setCell_far _ _ _ _ (by simp; omega), World.cell?_setCell_far _ _ _ _ (by simp; omega)]; exact m31
      have e01 : ((((w3.setCell ⟨w2.heap.size, 0, none⟩ (.int .i64 (whi (-q)))).setCell ⟨w2.heap.size, 1, none⟩ (.int .u64 (wlo (-q)))).setCell ⟨w.heap.size + 1, 0, none⟩ (.int .i64 (whi (-q)))).setCell ⟨w.heap.size + 1, 1, none⟩ (.int .u64 (wlo (-q)))).cell? ⟨w.heap.size + 1, 0, none⟩ = some (.int .i64 (whi (-q))) ∧ ((((w3.setCell ⟨w2.heap.size, 0, none⟩ (.int .i64 (whi (-q)))).setCell ⟨w2.heap.size, 1, none⟩ (.int .u64 (wlo (-q)))).setCell ⟨w.heap.size + 1, 0, none⟩ (.int .i64 (whi (-q)))).setCell ⟨w.heap.size + 1, 1, none⟩ (.int .u64 (wlo (-q)))).cell? ⟨w.heap.size + 1, 1, none⟩ = some (.int .u64 (wlo (-q))) := by
        generalize ((w3.setCell ⟨w2.heap.size, 0, none⟩ (.int .i64 (whi (-q)))).setCell ⟨w2.heap.size, 1, none⟩ (.int .u64 (wlo (-q)))) = W5 at *
        exact ⟨by go_simp, by go_simp⟩
      obtain ⟨e0, e1⟩ := e01
      clear p0 p1
      go_wp2
      refine bodyPost_ret (v := .tuple #[.agg #[.int .i64 (whi (-q)), .int .u64 (wlo (-q))], .bool true]) (by simp [results, Try.results54, go_sem, e0, e1]) rfl ⟨rfl, by have := Hb3.out; (repeat first | assumption | exact Below.refl _ _ | refine Below.drew ?_ | refine Below.drewN ?_ _ | refine Below.alloc ?_ (by (first | omega | (simp; done) | (simp; omega))) _ | refine Below.setCell ?_ (by (first | omega | (simp; done) | (simp; omega))) _ | refine Below.trans ?_ (Below.mono (by assumption) (by (first | omega | (simp; done) | (simp; omega)))))⟩
    · have eq2 : rne (absZ v) d = t * 18446744073709551616 + b := by
        rw [eq]
        rw [if_neg (by simp only [beq_eq_false_iff_ne] at k2; omega)]
      rw [eq2] at hr HN
      have ehi : Hid (whi (t * 18446744073709551616 + b) = wrap64 (t)) := Lib.hid (by unfold whi wrap64; (try rw [IntKind.wrap_u64]); omega)
      have elo : Hid (wlo (t * 18446744073709551616 + b) = b) := Lib.hid (by unfold wlo; omega)
      clear eq eq2
      generalize hq : t * 18446744073709551616 + b = q at *
      clear hq
      unfold W at *
      rw [hr]
      rw [ehi.out, elo.out] at HN
      go_enter Try.func54, Try.ntmps54
      go_wp2_with fail
      ((with_reducible refine (HS.out _).mono ?_); rintro e w1 ⟨rfl, hb1⟩)
      obtain ⟨hc1, hf1⟩ := bcell hb1
      have hz1 := hb1.size
      (try simp at hz1 hc1 hf1)
      have k10 : w1.cell? ⟨w.heap.size, 0, none⟩ = some (.int .i64 (whi v)) := by rw [hc1 _ _ (by omega)]; go_simp
      have m10 : w1.cell? ⟨w.heap.size + 1, 0, none⟩ = some (.int .i64 0) := by rw [hc1 _ _ (by omega)]; go_simp
      have m11 : w1.cell? ⟨w.heap.size + 1, 1, none⟩ = some (.int .u64 0) := by rw [hc1 _ _ (by omega)]; go_simp
      have mf1 : ∀ i, w1.frozen? ⟨w.heap.size + 1, i, none⟩ = false := fun i => by rw [hf1 _ _ (by omega)]; go_simp
      have Hb1 : Hid (Below w.heap.size w w1) := Lib.hid (by (repeat first | assumption | exact Below.refl _ _ | refine Below.drew ?_ | refine Below.drewN ?_ _ | refine Below.alloc ?_ (by (first | omega | (simp; done) | (simp; omega))) _ | refine Below.setCell ?_ (by (first | omega | (simp; done) | (simp; omega))) _ | refine Below.trans ?_ (Below.mono (by assumption) (by (first | omega | (simp; done) | (simp; omega))))))
      clear hb1 hc1 hf1
      go_wp2_with fail
      ((with_reducible refine (HD.out _).mono ?_); rintro e w2 ⟨rfl, hb2⟩)
      obtain ⟨hc2, hf2⟩ := bcell hb2
      have hz2 := hb2.size
      have k20 : w2.cell? ⟨w.heap.size, 0, none⟩ = some (.int .i64 (whi v)) := by rw [hc2 _ _ (by omega)]; exact k10
      have m20 : w2.cell? ⟨w.heap.size + 1, 0, none⟩ = some (.int .i64 0) := by rw [hc2 _ _ (by omega)]; exact m10
      have m21 : w2.cell? ⟨w.heap.size + 1, 1, none⟩ = some (.int .u64 0) := by rw [hc2 _ _ (by omega)]; exact m11
      have mf2 : ∀ i, w2.frozen? ⟨w.heap.size + 1, i, none⟩ = false := fun i => by rw [hf2 _ _ (by omega)]; exact mf1 i
      have Hb2 : Hid (Below w.heap.size w w2) := Lib.hid (Hb1.out.trans (hb2.mono (by omega)))
      have lt2 : w.heap.size < w2.heap.size := by omega
      have lt2b : w.heap.size + 1 < w2.heap.size := by omega
      clear hb2 hc2 hf2 k10 m10 m11 mf1 Hb1 hz1 hz2
      go_wp2_with fail
      ((with_reducible refine (HN.out _).mono ?_); rintro e w3 ⟨rfl, hb3⟩)
      obtain ⟨hc3, hf3⟩ := bcell hb3
      have hz3 := hb3.size
      (try simp at hz3 hc3 hf3)
      have m30 : w3.cell? ⟨w.heap.size + 1, 0, none⟩ = some (.int .i64 0) := by rw [hc3 _ _ (by omega)]; go_simp
      have m31 : w3.cell? ⟨w.heap.size + 1, 1, none⟩ = some (.int .u64 0) := by rw [hc3 _ _ (by omega)]; go_simp
      have mf3 : ∀ i, w3.frozen? ⟨w.heap.size + 1, i, none⟩ = false := fun i => by rw [hf3 _ _ (by omega)]; go_simp
      have n30 : w3.cell? ⟨w2.heap.size, 0, none⟩ = some (.int .i64 (wrap64 (t))) := by rw [hc3 _ _ (by omega)]; go_simp
      have n31 : w3.cell? ⟨w2.heap.size, 1, none⟩ = some (.int .u64 (b)) := by rw [hc3 _ _ (by omega)]; go_simp
      have nf3 : ∀ i, w3.frozen? ⟨w2.heap.size, i, none⟩ = false := fun i => by rw [hf3 _ _ (by omega)]; go_simp
      have Hb3 : Hid (Below w.heap.size w w3) := Lib.hid (by have := Hb2.out; (repeat first | assumption | exact Below.refl _ _ | refine Below.drew ?_ | refine Below.drewN ?_ _ | refine Below.alloc ?_ (by (first | omega | (simp; done) | (simp; omega))) _ | refine Below.setCell ?_ (by (first | omega | (simp; done) | (simp; omega))) _ | refine Below.trans ?_ (Below.mono (by assumption) (by (first | omega | (simp; done) | (simp; omega))))))
      clear hb3 hc3 hf3 Hb2
      have p0 : ((w3.setCell ⟨w2.heap.size, 0, none⟩ (.int .i64 (whi (-q)))).setCell ⟨w2.heap.size, 1, none⟩ (.int .u64 (wlo (-q)))).cell? ⟨w.heap.size + 1, 0, none⟩ = some (.int .i64 0) := by rw [World.cell?_setCell_far _ _ _ _ (by simp; omega), World.cell?_setCell_far _ _ _ _ (by simp; omega)]; exact m30
      have p1 : ((w3.setCell ⟨w2.heap.size, 0, none⟩ (.int .i64 (whi (-q)))).setCell ⟨w2.heap.size, 1, none⟩ (.int .u64 (wlo (-q)))).cell? ⟨w.heap.size + 1, 1, none⟩ = some (.int .u64 0) := by rw [World.cell?_setCell_far _ _ _ _ (by simp; omega), World.cell?_setCell_far _ _ _ _ (by simp; omega)]; exact m31
      have e01 : ((((w3.setCell ⟨w2.heap.size, 0, none⟩ (.int .i64 (whi (-q)))).setCell ⟨w2.heap.size, 1, none⟩ (.int .u64 (wlo (-q)))).setCell ⟨w.heap.size + 1, 0, none⟩ (.int .i64 (whi (-q)))).setCell ⟨w.heap.size + 1, 1, none⟩ (.int .u64 (wlo (-q)))).cell? ⟨w.heap.size + 1, 0, none⟩ = some (.int .i64 (whi (-q))) ∧ ((((w3.setCell ⟨w2.heap.size, 0, none⟩ (.int .i64 (whi (-q)))).setCell ⟨w2.heap.size, 1, none⟩ (.int .u64 (wlo (-q)))).setCell ⟨w.heap.size + 1, 0, none⟩ (.int .i64 (whi (-q)))).setCell ⟨w.heap.size + 1, 1, none⟩ (.int .u64 (wlo (-q)))).cell? ⟨w.heap.size + 1, 1, none⟩ = some (.int .u64 (wlo (-q))) := by
        generalize ((w3.setCell ⟨w2.heap.size, 0, none⟩ (.int .i64 (whi (-q)))).setCell ⟨w2.heap.size, 1, none⟩ (.int .u64 (wlo (-q)))) = W5 at *
        exact ⟨by go_simp, by go_simp⟩
      obtain ⟨e0, e1⟩ := e01
      clear p0 p1
      go_wp2
      refine bodyPost_ret (v := .tuple #[.agg #[.int .i64 (whi (-q)), .int .u64 (wlo (-q))], .bool true]) (by simp [results, Try.results54, go_sem, e0, e1]) rfl ⟨rfl, by have := Hb3.out; (repeat first | assumption | exact Below.refl _ _ | refine Below.drew ?_ | refine Below.drewN ?_ _ | refine Below.alloc ?_ (by (first | omega | (simp; done) | (simp; omega))) _ | refine Below.setCell ?_ (by (first | omega | (simp; done) | (simp; omega))) _ | refine Below.trans ?_ (Below.mono (by assumption) (by (first | omega | (simp; done) | (simp; omega)))))⟩
  · rw [if_neg hneg] at hr
    have hn : 0 ≤ whi v := by rw [hw]; omega
    clear hneg hw
    rcases hcs with k1 | ⟨k1, k2, k3⟩ | ⟨k1, k2, k3⟩ | ⟨k1, k2⟩
    · have eq2 : rne (absZ v) d = t * 18446744073709551616 + b + 1 := by
        rw [eq]
        rw [if_pos (by omega)]
      rw [eq2] at hr HN
      have ehi : Hid (whi (t * 18446744073709551616 + b + 1) = wrap64 (IntKind.u64.wrap (t + (b + 1) / 18446744073709551616))) := Lib.hid (by unfold whi wrap64; (try rw [IntKind.wrap_u64]); omega)
      have elo : Hid (wlo (t * 18446744073709551616 + b + 1) = (b + 1) % 18446744073709551616) := Lib.hid (by unfold wlo; omega)
      clear eq eq2
      generalize hq : t * 18446744073709551616 + b + 1 = q at *
      clear hq
      unfold W at *
      rw [hr]
      go_enter Try.func54, Try.ntmps54
      go_wp2_with fail
      ((with_reducible refine (HS.out _).mono ?_); rintro e w1 ⟨rfl, hb1⟩)
      obtain ⟨hc1, hf1⟩ := bcell hb1
      have hz1 := hb1.size
      (try simp at hz1 hc1 hf1)
      have k10 : w1.cell? ⟨w.heap.size, 0, none⟩ = some (.int .i64 (whi v)) := by rw [hc1 _ _ (by omega)]; go_simp
      have m10 : w1.cell? ⟨w.heap.size + 1, 0, none⟩ = some (.int .i64 0) := by rw [hc1 _ _ (by omega)]; go_simp
      have m11 : w1.cell? ⟨w.heap.size + 1, 1, none⟩ = some (.int .u64 0) := by rw [hc1 _ _ (by omega)]; go_simp
      have mf1 : ∀ i, w1.frozen? ⟨w.heap.size + 1, i, none⟩ = false := fun i => by rw [hf1 _ _ (by omega)]; go_simp
      have Hb1 : Hid (Below w.heap.size w w1) := Lib.hid (by (repeat first | assumption | exact Below.refl _ _ | refine Below.drew ?_ | refine Below.drewN ?_ _ | refine Below.alloc ?_ (by (first | omega | (simp; done) | (simp; omega))) _ | refine Below.setCell ?_ (by (first | omega | (simp; done) | (simp; omega))) _ | refine Below.trans ?_ (Below.mono (by assumption) (by (first | omega | (simp; done) | (simp; omega))))))
      clear hb1 hc1 hf1
      go_wp2_with fail
      ((with_reducible refine (HD.out _).mono ?_); rintro e w2 ⟨rfl, hb2⟩)
      obtain ⟨hc2, hf2⟩ := bcell hb2
      have hz2 := hb2.size
      have k20 : w2.cell? ⟨w.heap.size, 0, none⟩ = some (.int .i64 (whi v)) := by rw [hc2 _ _ (by omega)]; exact k10
      have m20 : w2.cell? ⟨w.heap.size + 1, 0, none⟩ = some (.int .i64 0) := by rw [hc2 _ _ (by omega)]; exact m10
      have m21 : w2.cell? ⟨w.heap.size + 1, 1, none⟩ = some (.int .u64 0) := by rw [hc2 _ _ (by omega)]; exact m11
      have mf2 : ∀ i, w2.frozen? ⟨w.heap.size + 1, i, none⟩ = false := fun i => by rw [hf2 _ _ (by omega)]; exact mf1 i
      have Hb2 : Hid (Below w.heap.size w w2) := Lib.hid (Hb1.out.trans (hb2.mono (by omega)))
      have lt2 : w.heap.size < w2.heap.size := by omega
      have lt2b : w.heap.size + 1 < w2.heap.size := by omega
      clear hb2 hc2 hf2 k10 m10 m11 mf1 Hb1 hz1 hz2
      have e0 : (((w2.setCell ⟨w.heap.size + 1, 0, none⟩ (.int .i64 (wrap64 (IntKind.u64.wrap (t + (b + 1) / 18446744073709551616))))).setCell ⟨w.heap.size + 1, 1, none⟩ (.int .u64 ((b + 1) % 18446744073709551616))).alloc (.cells #[(.int .i64 (wrap64 (IntKind.u64.wrap (t + (b + 1) / 18446744073709551616)))), (.int .u64 ((b + 1) % 18446744073709551616))] 102)).cell? ⟨w.heap.size + 1, 0, none⟩ = some (.int .i64 (wrap64 (IntKind.u64.wrap (t + (b + 1) / 18446744073709551616)))) := by rw [World.cell?_alloc_past _ _ _ (by simp; omega)]; go_simp
      have e1 : (((w2.setCell ⟨w.heap.size + 1, 0, none⟩ (.int .i64 (wrap64 (IntKind.u64.wrap (t + (b + 1) / 18446744073709551616))))).setCell ⟨w.heap.size + 1, 1, none⟩ (.int .u64 ((b + 1) % 18446744073709551616))).alloc (.cells #[(.int .i64 (wrap64 (IntKind.u64.wrap (t + (b + 1) / 18446744073709551616)))), (.int .u64 ((b + 1) % 18446744073709551616))] 102)).cell? ⟨w.heap.size + 1, 1, none⟩ = some (.int .u64 ((b + 1) % 18446744073709551616)) := by rw [World.cell?_alloc_past _ _ _ (by simp; omega)]; go_simp
      go_wp2
      refine bodyPost_ret (v := .tuple #[.agg #[.int .i64 (whi q), .int .u64 (wlo q)], .bool true]) (by rw [ehi.out, elo.out]; simp [results, Try.results54, go_sem, e0, e1]) rfl ⟨rfl, by have := Hb2.out; (repeat first | assumption | exact Below.refl _ _ | refine Below.drew ?_ | refine Below.drewN ?_ _ | refine Below.alloc ?_ (by (first | omega | (simp; done) | (simp; omega))) _ | refine Below.setCell ?_ (by (first | omega | (simp; done) | (simp; omega))) _ | refine Below.trans ?_ (Below.mono (by assumption) (by (first | omega | (simp; done) | (simp; omega)))))⟩
    · have eq2 : rne (absZ v) d = t * 18446744073709551616 + b + 1 := by
        rw [eq]
        rw [if_pos (by simp only [beq_iff_eq] at k2 k3; omega)]
      rw [eq2] at hr HN
      have ehi : Hid (whi (t * 18446744073709551616 + b + 1) = wrap64 (IntKind.u64.wrap (t + (b + 1) / 18446744073709551616))) := Lib.hid (by unfold whi wrap64; (try rw [IntKind.wrap_u64]); omega)
      have elo : Hid (wlo (t * 18446744073709551616 + b + 1) = (b + 1) % 18446744073709551616) := Lib.hid (by unfold wlo; omega)
      clear eq eq2
      generalize hq : t * 18446744073709551616 + b + 1 = q at *
      clear hq
      unfold W at *
      rw [hr]
      go_enter Try.func54, Try.ntmps54
      go_wp2_with fail
      ((with_reducible refine (HS.out _).mono ?_); rintro e w1 ⟨rfl, hb1⟩)
      obtain ⟨hc1, hf1⟩ := bcell hb1
      have hz1 := hb1.size
      (try simp at hz1 hc1 hf1)
      have k10 : w1.cell? ⟨w.heap.size, 0, none⟩ = some (.int .i64 (whi v)) := by rw [hc1 _ _ (by omega)]; go_simp
      have m10 : w1.cell? ⟨w.heap.size + 1, 0, none⟩ = some (.int .i64 0) := by rw [hc1 _ _ (by omega)]; go_simp
      have m11 : w1.cell? ⟨w.heap.size + 1, 1, none⟩ = some (.int .u64 0) := by rw [hc1 _ _ (by omega)]; go_simp
      have mf1 : ∀ i, w1.frozen? ⟨w.heap.size + 1, i, none⟩ = false := fun i => by rw [hf1 _ _ (by omega)]; go_simp
      have Hb1 : Hid (Below w.heap.size w w1) := Lib.hid (by (repeat first | assumption | exact Below.refl _ _ | refine Below.drew ?_ | refine Below.drewN ?_ _ | refine Below.alloc ?_ (by (first | omega | (simp; done) | (simp; omega))) _ | refine Below.setCell ?_ (by (first | omega | (simp; done) | (simp; omega))) _ | refine Below.trans ?_ (Below.mono (by assumption) (by (first | omega | (simp; done) | (simp; omega))))))
      clear hb1 hc1 hf1
      go_wp2_with fail
      ((with_reducible refine (HD.out _).mono ?_); rintro e w2 ⟨rfl, hb2⟩)
      obtain ⟨hc2, hf2⟩ := bcell hb2
      have hz2 := hb2.size
      have k20 : w2.cell? ⟨w.heap.size, 0, none⟩ = some (.int .i64 (whi v)) := by rw [hc2 _ _ (by omega)]; exact k10
      have m20 : w2.cell? ⟨w.heap.size + 1, 0, none⟩ = some (.int .i64 0) := by rw [hc2 _ _ (by omega)]; exact m10
      have m21 : w2.cell? ⟨w.heap.size + 1, 1, none⟩ = some (.int .u64 0) := by rw [hc2 _ _ (by omega)]; exact m11
      have mf2 : ∀ i, w2.frozen? ⟨w.heap.size + 1, i, none⟩ = false := fun i => by rw [hf2 _ _ (by omega)]; exact mf1 i
      have Hb2 : Hid (Below w.heap.size w w2) := Lib.hid (Hb1.out.trans (hb2.mono (by omega)))
      have lt2 : w.heap.size < w2.heap.size := by omega
      have lt2b : w.heap.size + 1 < w2.heap.size := by omega
      clear hb2 hc2 hf2 k10 m10 m11 mf1 Hb1 hz1 hz2
      have e0 : (((w2.setCell ⟨w.heap.size + 1, 0, none⟩ (.int .i64 (wrap64 (IntKind.u64.wrap (t + (b + 1) / 18446744073709551616))))).setCell ⟨w.heap.size + 1, 1, none⟩ (.int .u64 ((b + 1) % 18446744073709551616))).alloc (.cells #[(.int .i64 (wrap64 (IntKind.u64.wrap (t + (b + 1) / 18446744073709551616)))), (.int .u64 ((b + 1) % 18446744073709551616))] 102)).cell? ⟨w.heap.size + 1, 0, none⟩ = some (.int .i64 (wrap64 (IntKind.u64.wrap (t + (b + 1) / 18446744073709551616)))) := by rw [World.cell?_alloc_past _ _ _ (by simp; omega)]; go_simp
      have e1 : (((w2.setCell ⟨w.heap.size + 1, 0, none⟩ (.int .i64 (wrap64 (IntKind.u64.wrap (t + (b + 1) / 18446744073709551616))))).setCell ⟨w.heap.size + 1, 1, none⟩ (.int .u64 ((b + 1) % 18446744073709551616))).alloc (.cells #[(.int .i64 (wrap64 (IntKind.u64.wrap (t + (b + 1) / 18446744073709551616)))), (.int .u64 ((b + 1) % 18446744073709551616))] 102)).cell? ⟨w.heap.size + 1, 1, none⟩ = some (.int .u64 ((b + 1) % 18446744073709551616)) := by rw [World.cell?_alloc_past _ _ _ (by simp; omega)]; go_simp
      go_wp2
      refine bodyPost_ret (v := .tuple #[.agg #[.int .i64 (whi q), .int .u64 (wlo q)], .bool true]) (by rw [ehi.out, elo.out]; simp [results, Try.results54, go_sem, e0, e1]) rfl ⟨rfl, by have := Hb2.out; (repeat first | assumption | exact Below.refl _ _ | refine Below.drew ?_ | refine Below.drewN ?_ _ | refine Below.alloc ?_ (by (first | omega | (simp; done) | (simp; omega))) _ | refine Below.setCell ?_ (by (first | omega | (simp; done) | (simp; omega))) _ | refine Below.trans ?_ (Below.mono (by assumption) (by (first | omega | (simp; done) | (simp; omega)))))⟩
    · have eq2 : rne (absZ v) d = t * 18446744073709551616 + b := by
        rw [eq]
        rw [if_neg (by simp only [beq_iff_eq, beq_eq_false_iff_ne] at k2 k3; omega)]
      rw [eq2] at hr HN
      have ehi : Hid (whi (t * 18446744073709551616 + b) = wrap64 (t)) := Lib.hid (by unfold whi wrap64; (try rw [IntKind.wrap_u64]); omega)
      have elo : Hid (wlo (t * 18446744073709551616 + b) = b) := Lib.hid (by unfold wlo; omega)
      clear eq eq2
      generalize hq : t * 18446744073709551616 + b = q at *
      clear hq
      unfold W at *
      rw [hr]
      go_enter Try.func54, Try.ntmps54
      go_wp2_with fail
      ((with_reducible refine (HS.out _).mono ?_); rintro e w1 ⟨rfl, hb1⟩)
      obtain ⟨hc1, hf1⟩ := bcell hb1
      have hz1 := hb1.size
      (try simp at hz1 hc1 hf1)
      have k10 : w1.cell? ⟨w.heap.size, 0, none⟩ = some (.int .i64 (whi v)) := by rw [hc1 _ _ (by omega)]; go_simp
      have m10 : w1.cell? ⟨w.heap.size + 1, 0, none⟩ = some (.int .i64 0) := by rw [hc1 _ _ (by omega)]; go_simp
      have m11 : w1.cell? ⟨w.heap.size + 1, 1, none⟩ = some (.int .u64 0) := by rw [hc1 _ _ (by omega)]; go_simp
      have mf1 : ∀ i, w1.frozen? ⟨w.heap.size + 1, i, none⟩ = false := fun i => by rw [hf1 _ _ (by omega)]; go_simp
      have Hb1 : Hid (Below w.heap.size w w1) := Lib.hid (by (repeat first | assumption | exact Below.refl _ _ | refine Below.drew ?_ | refine Below.drewN ?_ _ | refine Below.alloc ?_ (by (first | omega | (simp; done) | (simp; omega))) _ | refine Below.setCell ?_ (by (first | omega | (simp; done) | (simp; omega))) _ | refine Below.trans ?_ (Below.mono (by assumption) (by (first | omega | (simp; done) | (simp; omega))))))
      clear hb1 hc1 hf1
      go_wp2_with fail
      ((with_reducible refine (HD.out _).mono ?_); rintro e w2 ⟨rfl, hb2⟩)
      obtain ⟨hc2, hf2⟩ := bcell hb2
      have hz2 := hb2.size
      have k20 : w2.cell? ⟨w.heap.size, 0, none⟩ = some (.int .i64 (whi v)) := by rw [hc2 _ _ (by omega)]; exact k10
      have m20 : w2.cell? ⟨w.heap.size + 1, 0, none⟩ = some (.int .i64 0) := by rw [hc2 _ _ (by omega)]; exact m10
      have m21 : w2.cell? ⟨w.heap.size + 1, 1, none⟩ = some (.int .u64 0) := by rw [hc2 _ _ (by omega)]; exact m11
      have mf2 : ∀ i, w2.frozen? ⟨w.heap.size + 1, i, none⟩ = false := fun i => by rw [hf2 _ _ (by omega)]; exact mf1 i
      have Hb2 : Hid (Below w.heap.size w w2) := Lib.hid (Hb1.out.trans (hb2.mono (by omega)))
      have lt2 : w.heap.size < w2.heap.size := by omega
      have lt2b : w.heap.size + 1 < w2.heap.size := by omega
      clear hb2 hc2 hf2 k10 m10 m11 mf1 Hb1 hz1 hz2
      have e0 : (((w2.setCell ⟨w.heap.size + 1, 0, none⟩ (.int .i64 (wrap64 (t)))).setCell ⟨w.heap.size + 1, 1, none⟩ (.int .u64 (b))).alloc (.cells #[(.int .i64 (wrap64 (t))), (.int .u64 (b))] 102)).cell? ⟨w.heap.size + 1, 0, none⟩ = some (.int .i64 (wrap64 (t))) := by rw [World.cell?_alloc_past _ _ _ (by simp; omega)]; go_simp
      have e1 : (((w2.setCell ⟨w.heap.size + 1, 0, none⟩ (.int .i64 (wrap64 (t)))).setCell ⟨w.heap.size + 1, 1, none⟩ (.int .u64 (b))).alloc (.cells #[(.int .i64 (wrap64 (t))), (.int .u64 (b))] 102)).cell? ⟨w.heap.size + 1, 1, none⟩ = some (.int .u64 (b)) := by rw [World.cell?_alloc_past _ _ _ (by simp; omega)]; go_simp
      go_wp2
      refine bodyPost_ret (v := .tuple #[.agg #[.int .i64 (whi q), .int .u64 (wlo q)], .bool true]) (by rw [ehi.out, elo.out]; simp [results, Try.results54, go_sem, e0, e1]) rfl ⟨rfl, by have := Hb2.out; (repeat first | assumption | exact Below.refl _ _ | refine Below.drew ?_ | refine Below.drewN ?_ _ | refine Below.alloc ?_ (by (first | omega | (simp; done) | (simp; omega))) _ | refine Below.setCell ?_ (by (first | omega | (simp; done) | (simp; omega))) _ | refine Below.trans ?_ (Below.mono (by assumption) (by (first | omega | (simp; done) | (simp; omega)))))⟩
    · have eq2 : rne (absZ v) d = t * 18446744073709551616 + b := by
        rw [eq]
        rw [if_neg (by simp only [beq_eq_false_iff_ne] at k2; omega)]
      rw [eq2] at hr HN
      have ehi : Hid (whi (t * 18446744073709551616 + b) = wrap64 (t)) := Lib.hid (by unfold whi wrap64; (try rw [IntKind.wrap_u64]); omega)
      have elo : Hid (wlo (t * 18446744073709551616 + b) = b) := Lib.hid (by unfold wlo; omega)
      clear eq eq2
      generalize hq : t * 18446744073709551616 + b = q at *
      clear hq
      unfold W at *
      rw [hr]
      go_enter Try.func54, Try.ntmps54
      go_wp2_with fail
      ((with_reducible refine (HS.out _).mono ?_); rintro e w1 ⟨rfl, hb1⟩)
      obtain ⟨hc1, hf1⟩ := bcell hb1
      have hz1 := hb1.size
      (try simp at hz1 hc1 hf1)
      have k10 : w1.cell? ⟨w.heap.size, 0, none⟩ = some (.int .i64 (whi v)) := by rw [hc1 _ _ (by omega)]; go_simp
      have m10 : w1.cell? ⟨w.heap.size + 1, 0, none⟩ = some (.int .i64 0) := by rw [hc1 _ _ (by omega)]; go_simp
      have m11 : w1.cell? ⟨w.heap.size + 1, 1, none⟩ = some (.int .u64 0) := by rw [hc1 _ _ (by omega)]; go_simp
      have mf1 : ∀ i, w1.frozen? ⟨w.heap.size + 1, i, none⟩ = false := fun i => by rw [hf1 _ _ (by omega)]; go_simp
      have Hb1 : Hid (Below w.heap.size w w1) := Lib.hid (by (repeat first | assumption | exact Below.refl _ _ | refine Below.drew ?_ | refine Below.drewN ?_ _ | refine Below.alloc ?_ (by (first | omega | (simp; done) | (simp; omega))) _ | refine Below.setCell ?_ (by (first | omega | (simp; done) | (simp; omega))) _ | refine Below.trans ?_ (Below.mono (by assumption) (by (first | omega | (simp; done) | (simp; omega))))))
      clear hb1 hc1 hf1
      go_wp2_with fail
      ((with_reducible refine (HD.out _).mono ?_); rintro e w2 ⟨rfl, hb2⟩)
      obtain ⟨hc2, hf2⟩ := bcell hb2
      have hz2 := hb2.size
      have k20 : w2.cell? ⟨w.heap.size, 0, none⟩ = some (.int .i64 (whi v)) := by rw [hc2 _ _ (by omega)]; exact k10
      have m20 : w2.cell? ⟨w.heap.size + 1, 0, none⟩ = some (.int .i64 0) := by rw [hc2 _ _ (by omega)]; exact m10
      have m21 : w2.cell? ⟨w.heap.size + 1, 1, none⟩ = some (.int .u64 0) := by rw [hc2 _ _ (by omega)]; exact m11
      have mf2 : ∀ i, w2.frozen? ⟨w.heap.size + 1, i, none⟩ = false := fun i => by rw [hf2 _ _ (by omega)]; exact mf1 i
      have Hb2 : Hid (Below w.heap.size w w2) := Lib.hid (Hb1.out.trans (hb2.mono (by omega)))
      have lt2 : w.heap.size < w2.heap.size := by omega
      have lt2b : w.heap.size + 1 < w2.heap.size := by omega
      clear hb2 hc2 hf2 k10 m10 m11 mf1 Hb1 hz1 hz2
      have e0 : (((w2.setCell ⟨w.heap.size + 1, 0, none⟩ (.int .i64 (wrap64 (t)))).setCell ⟨w.heap.size + 1, 1, none⟩ (.int .u64 (b))).alloc (.cells #[(.int .i64 (wrap64 (t))), (.int .u64 (b))] 102)).cell? ⟨w.heap.size + 1, 0, none⟩ = some (.int .i64 (wrap64 (t))) := by rw [World.cell?_alloc_past _ _ _ (by simp; omega)]; go_simp
      have e1 : (((w2.setCell ⟨w.heap.size + 1, 0, none⟩ (.int .i64 (wrap64 (t)))).setCell ⟨w.heap.size + 1, 1, none⟩ (.int .u64 (b))).alloc (.cells #[(.int .i64 (wrap64 (t))), (.int .u64 (b))] 102)).cell? ⟨w.heap.size + 1, 1, none⟩ = some (.int .u64 (b)) := by rw [World.cell?_alloc_past _ _ _ (by simp; omega)]; go_simp
      go_wp2
      refine bodyPost_ret (v := .tuple #[.agg #[.int .i64 (whi q), .int .u64 (wlo q)], .bool true]) (by rw [ehi.out, elo.out]; simp [results, Try.results54, go_sem, e0, e1]) rfl ⟨rfl, by have := Hb2.out; (repeat first | assumption | exact Below.refl _ _ | refine Below.drew ?_ | refine Below.drewN ?_ _ | refine Below.alloc ?_ (by (first | omega | (simp; done) | (simp; omega))) _ | refine Below.setCell ?_ (by (first | omega | (simp; done) | (simp; omega))) _ | refine Below.trans ?_ (Below.mono (by assumption) (by (first | omega | (simp; done) | (simp; omega)))))⟩
end Go.Proofs.Ytkmfdggodinjaaa
