/-
  Layer wide: a long number to the nearest, by 2^32 and 2^33.
-/
import Derived.Test.YtkmfdggodinjaaaLongC
namespace Go.Proofs.Ytkmfdggodinjaaa
open Go.RowKit
set_option linter.unusedVariables false
set_option linter.unusedSimpArgs false
set_option maxRecDepth 8000

theorem WV1 : WV 1 = .agg #[.int .u64 1, .int .u64 0, .int .u64 0] := by
  have a0 : x0 1 = 1 := by unfold x0; omega
  have a1 : x1 1 = 0 := by unfold x1; omega
  have a2 : x2 1 = 0 := by unfold x2; omega
  simp only [WV, a0, a1, a2]

set_option maxRecDepth 100000 in
set_option maxHeartbeats 3200000 in
theorem Near32_any (v : Int) (w : World) (h : I192 v) :
    Calls Try.prog 115 #[LG v, .int .i64 32] w fun e w' => e = .returned (Held (rne v 4294967296)) ∧ Below w.heap.size w w' := by
  have HO := Lib.hid (fun w => open_any v w)
  have HD := Lib.hid (fun w => down32_any v w h)
  have HBI := Lib.hid (fun w => bit31_any v w)
  have HBA := Lib.hid (fun w => bare31_any v w)
  have HP := Lib.hid (fun w => plus_any (v / 4294967296) 1 w)
  rw [WV1] at HP
  have hq := (I192_rne32 h).2
  have H0 := bit0 (v / 4294967296)
  have hr := rne32 v
  by_cases b1 : v / 2147483648 % 2 = 1
  · rw [b1] at HBI
    by_cases b2 : v % 2147483648 = 0
    · have e2 : decide (v % 2147483648 = 0) = true := by simpa using b2
      rw [e2] at HBA
      by_cases b3 : v / 4294967296 % 2 = 1
      · rw [if_pos ⟨b1, .inr b3⟩] at hr
        have HC := Lib.hid (fun w => clampL_any (v / 4294967296 + 1) w (by rw [← hr]; exact (I192_rne32 h).1))
        have Hr := Lib.hid hr
        rw [b3] at H0
        clear h hq hr b1 b2 b3 e2
        unfold LG WV at *
        rw [Hr.out]
        go_enter Try.func115, Try.ntmps115
        go_wp2_with first
            | ((with_reducible refine (HO.out _).mono ?_); rintro e w1 ⟨rfl, hb1⟩; obtain ⟨hc1, hf1⟩ := bcell hb1; have z1 := hb1.size; (try simp at z1 hc1 hf1); have lt10 : w.heap.size < w1.heap.size := (by omega); (try have lt11 : w1.heap.size < w1.heap.size := (by omega)); (try have lt12 : w2.heap.size < w1.heap.size := (by omega)))
            | ((with_reducible refine (HD.out _).mono ?_); rintro e w2 ⟨rfl, hb2⟩; obtain ⟨hc2, hf2⟩ := bcell hb2; have z2 := hb2.size; (try simp at z2 hc2 hf2); have lt20 : w.heap.size < w2.heap.size := (by omega); (try have lt21 : w1.heap.size < w2.heap.size := (by omega)); (try have lt22 : w2.heap.size < w2.heap.size := (by omega)))
            | ((with_reducible refine (HBI.out _).mono ?_); rintro e w3 ⟨rfl, hb3⟩; obtain ⟨hc3, hf3⟩ := bcell hb3; have z3 := hb3.size; (try simp at z3 hc3 hf3); have lt30 : w.heap.size < w3.heap.size := (by omega); (try have lt31 : w1.heap.size < w3.heap.size := (by omega)); (try have lt32 : w2.heap.size < w3.heap.size := (by omega)))
            | ((with_reducible refine (HBA.out _).mono ?_); rintro e w4 ⟨rfl, hb4⟩; obtain ⟨hc4, hf4⟩ := bcell hb4; have z4 := hb4.size; (try simp at z4 hc4 hf4); have lt40 : w.heap.size < w4.heap.size := (by omega); (try have lt41 : w1.heap.size < w4.heap.size := (by omega)); (try have lt42 : w2.heap.size < w4.heap.size := (by omega)))
            | ((with_reducible refine (HP.out _).mono ?_); rintro e w5 ⟨rfl, hb5⟩; obtain ⟨hc5, hf5⟩ := bcell hb5; have z5 := hb5.size; (try simp at z5 hc5 hf5); have lt50 : w.heap.size < w5.heap.size := (by omega); (try have lt51 : w1.heap.size < w5.heap.size := (by omega)); (try have lt52 : w2.heap.size < w5.heap.size := (by omega)))
            | ((with_reducible refine (HC.out _).mono ?_); rintro e w6 ⟨rfl, hb6⟩; obtain ⟨hc6, hf6⟩ := bcell hb6; have z6 := hb6.size; (try simp at z6 hc6 hf6); have lt60 : w.heap.size < w6.heap.size := (by omega); (try have lt61 : w1.heap.size < w6.heap.size := (by omega)); (try have lt62 : w2.heap.size < w6.heap.size := (by omega)))
            | fail
        all_goals go_ret2
        all_goals exact ⟨rfl, by (repeat first | assumption | exact Below.refl _ _ | refine Below.drew ?_ | refine Below.drewN ?_ _ | refine Below.alloc ?_ (by (first | omega | (simp; done) | (simp; omega))) _ | refine Below.setCell ?_ (by (first | omega | (simp; done) | (simp; omega))) _ | refine Below.trans ?_ (Below.mono (by assumption) (by (first | omega | (simp; done) | (simp; omega)))))⟩
      · have b3' : v / 4294967296 % 2 = 0 := by omega
        rw [if_neg (by omega)] at hr
        have HC := Lib.hid (fun w => clampL_any (v / 4294967296) w hq)
        have Hr := Lib.hid hr
        rw [b3'] at H0
        clear h hq hr b1 b2 b3 b3' e2
        unfold LG WV at *
        rw [Hr.out]
        go_enter Try.func115, Try.ntmps115
        go_wp2_with first
            | ((with_reducible refine (HO.out _).mono ?_); rintro e w1 ⟨rfl, hb1⟩; obtain ⟨hc1, hf1⟩ := bcell hb1; have z1 := hb1.size; (try simp at z1 hc1 hf1); have lt10 : w.heap.size < w1.heap.size := (by omega); (try have lt11 : w1.heap.size < w1.heap.size := (by omega)); (try have lt12 : w2.heap.size < w1.heap.size := (by omega)))
            | ((with_reducible refine (HD.out _).mono ?_); rintro e w2 ⟨rfl, hb2⟩; obtain ⟨hc2, hf2⟩ := bcell hb2; have z2 := hb2.size; (try simp at z2 hc2 hf2); have lt20 : w.heap.size < w2.heap.size := (by omega); (try have lt21 : w1.heap.size < w2.heap.size := (by omega)); (try have lt22 : w2.heap.size < w2.heap.size := (by omega)))
            | ((with_reducible refine (HBI.out _).mono ?_); rintro e w3 ⟨rfl, hb3⟩; obtain ⟨hc3, hf3⟩ := bcell hb3; have z3 := hb3.size; (try simp at z3 hc3 hf3); have lt30 : w.heap.size < w3.heap.size := (by omega); (try have lt31 : w1.heap.size < w3.heap.size := (by omega)); (try have lt32 : w2.heap.size < w3.heap.size := (by omega)))
            | ((with_reducible refine (HBA.out _).mono ?_); rintro e w4 ⟨rfl, hb4⟩; obtain ⟨hc4, hf4⟩ := bcell hb4; have z4 := hb4.size; (try simp at z4 hc4 hf4); have lt40 : w.heap.size < w4.heap.size := (by omega); (try have lt41 : w1.heap.size < w4.heap.size := (by omega)); (try have lt42 : w2.heap.size < w4.heap.size := (by omega)))
            | ((with_reducible refine (HC.out _).mono ?_); rintro e w6 ⟨rfl, hb6⟩; obtain ⟨hc6, hf6⟩ := bcell hb6; have z6 := hb6.size; (try simp at z6 hc6 hf6); have lt60 : w.heap.size < w6.heap.size := (by omega); (try have lt61 : w1.heap.size < w6.heap.size := (by omega)); (try have lt62 : w2.heap.size < w6.heap.size := (by omega)))
            | fail
        all_goals go_ret2
        all_goals exact ⟨rfl, by (repeat first | assumption | exact Below.refl _ _ | refine Below.drew ?_ | refine Below.drewN ?_ _ | refine Below.alloc ?_ (by (first | omega | (simp; done) | (simp; omega))) _ | refine Below.setCell ?_ (by (first | omega | (simp; done) | (simp; omega))) _ | refine Below.trans ?_ (Below.mono (by assumption) (by (first | omega | (simp; done) | (simp; omega)))))⟩
    · have e2 : decide (v % 2147483648 = 0) = false := by simpa using b2
      rw [e2] at HBA
      rw [if_pos ⟨b1, .inl b2⟩] at hr
      have HC := Lib.hid (fun w => clampL_any (v / 4294967296 + 1) w (by rw [← hr]; exact (I192_rne32 h).1))
      have Hr := Lib.hid hr
      clear h hq hr b1 b2 e2 H0
      unfold LG WV at *
      rw [Hr.out]
      go_enter Try.func115, Try.ntmps115
      go_wp2_with first
            | ((with_reducible refine (HO.out _).mono ?_); rintro e w1 ⟨rfl, hb1⟩; obtain ⟨hc1, hf1⟩ := bcell hb1; have z1 := hb1.size; (try simp at z1 hc1 hf1); have lt10 : w.heap.size < w1.heap.size := (by omega); (try have lt11 : w1.heap.size < w1.heap.size := (by omega)); (try have lt12 : w2.heap.size < w1.heap.size := (by omega)))
            | ((with_reducible refine (HD.out _).mono ?_); rintro e w2 ⟨rfl, hb2⟩; obtain ⟨hc2, hf2⟩ := bcell hb2; have z2 := hb2.size; (try simp at z2 hc2 hf2); have lt20 : w.heap.size < w2.heap.size := (by omega); (try have lt21 : w1.heap.size < w2.heap.size := (by omega)); (try have lt22 : w2.heap.size < w2.heap.size := (by omega)))
            | ((with_reducible refine (HBI.out _).mono ?_); rintro e w3 ⟨rfl, hb3⟩; obtain ⟨hc3, hf3⟩ := bcell hb3; have z3 := hb3.size; (try simp at z3 hc3 hf3); have lt30 : w.heap.size < w3.heap.size := (by omega); (try have lt31 : w1.heap.size < w3.heap.size := (by omega)); (try have lt32 : w2.heap.size < w3.heap.size := (by omega)))
            | ((with_reducible refine (HBA.out _).mono ?_); rintro e w4 ⟨rfl, hb4⟩; obtain ⟨hc4, hf4⟩ := bcell hb4; have z4 := hb4.size; (try simp at z4 hc4 hf4); have lt40 : w.heap.size < w4.heap.size := (by omega); (try have lt41 : w1.heap.size < w4.heap.size := (by omega)); (try have lt42 : w2.heap.size < w4.heap.size := (by omega)))
            | ((with_reducible refine (HP.out _).mono ?_); rintro e w5 ⟨rfl, hb5⟩; obtain ⟨hc5, hf5⟩ := bcell hb5; have z5 := hb5.size; (try simp at z5 hc5 hf5); have lt50 : w.heap.size < w5.heap.size := (by omega); (try have lt51 : w1.heap.size < w5.heap.size := (by omega)); (try have lt52 : w2.heap.size < w5.heap.size := (by omega)))
            | ((with_reducible refine (HC.out _).mono ?_); rintro e w6 ⟨rfl, hb6⟩; obtain ⟨hc6, hf6⟩ := bcell hb6; have z6 := hb6.size; (try simp at z6 hc6 hf6); have lt60 : w.heap.size < w6.heap.size := (by omega); (try have lt61 : w1.heap.size < w6.heap.size := (by omega)); (try have lt62 : w2.heap.size < w6.heap.size := (by omega)))
            | fail
      all_goals go_ret2
      all_goals exact ⟨rfl, by (repeat first | assumption | exact Below.refl _ _ | refine Below.drew ?_ | refine Below.drewN ?_ _ | refine Below.alloc ?_ (by (first | omega | (simp; done) | (simp; omega))) _ | refine Below.setCell ?_ (by (first | omega | (simp; done) | (simp; omega))) _ | refine Below.trans ?_ (Below.mono (by assumption) (by (first | omega | (simp; done) | (simp; omega)))))⟩
  · have b1' : v / 2147483648 % 2 = 0 := by omega
    rw [b1'] at HBI
    rw [if_neg (by omega)] at hr
    have HC := Lib.hid (fun w => clampL_any (v / 4294967296) w hq)
    have Hr := Lib.hid hr
    clear h hq hr b1 b1' H0
    unfold LG WV at *
    rw [Hr.out]
    go_enter Try.func115, Try.ntmps115
    go_wp2_with first
            | ((with_reducible refine (HO.out _).mono ?_); rintro e w1 ⟨rfl, hb1⟩; obtain ⟨hc1, hf1⟩ := bcell hb1; have z1 := hb1.size; (try simp at z1 hc1 hf1); have lt10 : w.heap.size < w1.heap.size := (by omega); (try have lt11 : w1.heap.size < w1.heap.size := (by omega)); (try have lt12 : w2.heap.size < w1.heap.size := (by omega)))
            | ((with_reducible refine (HD.out _).mono ?_); rintro e w2 ⟨rfl, hb2⟩; obtain ⟨hc2, hf2⟩ := bcell hb2; have z2 := hb2.size; (try simp at z2 hc2 hf2); have lt20 : w.heap.size < w2.heap.size := (by omega); (try have lt21 : w1.heap.size < w2.heap.size := (by omega)); (try have lt22 : w2.heap.size < w2.heap.size := (by omega)))
            | ((with_reducible refine (HBI.out _).mono ?_); rintro e w3 ⟨rfl, hb3⟩; obtain ⟨hc3, hf3⟩ := bcell hb3; have z3 := hb3.size; (try simp at z3 hc3 hf3); have lt30 : w.heap.size < w3.heap.size := (by omega); (try have lt31 : w1.heap.size < w3.heap.size := (by omega)); (try have lt32 : w2.heap.size < w3.heap.size := (by omega)))
            | ((with_reducible refine (HC.out _).mono ?_); rintro e w6 ⟨rfl, hb6⟩; obtain ⟨hc6, hf6⟩ := bcell hb6; have z6 := hb6.size; (try simp at z6 hc6 hf6); have lt60 : w.heap.size < w6.heap.size := (by omega); (try have lt61 : w1.heap.size < w6.heap.size := (by omega)); (try have lt62 : w2.heap.size < w6.heap.size := (by omega)))
            | fail
    all_goals go_ret2
    all_goals exact ⟨rfl, by (repeat first | assumption | exact Below.refl _ _ | refine Below.drew ?_ | refine Below.drewN ?_ _ | refine Below.alloc ?_ (by (first | omega | (simp; done) | (simp; omega))) _ | refine Below.setCell ?_ (by (first | omega | (simp; done) | (simp; omega))) _ | refine Below.trans ?_ (Below.mono (by assumption) (by (first | omega | (simp; done) | (simp; omega)))))⟩

set_option maxRecDepth 100000 in
set_option maxHeartbeats 3200000 in
theorem Near33_any (v : Int) (w : World) (h : I192 v) :
    Calls Try.prog 115 #[LG v, .int .i64 33] w fun e w' => e = .returned (Held (rne v 8589934592)) ∧ Below w.heap.size w w' := by
  have HO := Lib.hid (fun w => open_any v w)
  have HD := Lib.hid (fun w => down33_any v w h)
  have HBI := Lib.hid (fun w => bit32_any v w)
  have HBA := Lib.hid (fun w => bare32_any v w)
  have HP := Lib.hid (fun w => plus_any (v / 8589934592) 1 w)
  rw [WV1] at HP
  have hq := (I192_rne33 h).2
  have H0 := bit0 (v / 8589934592)
  have hr := rne33 v
  by_cases b1 : v / 4294967296 % 2 = 1
  · rw [b1] at HBI
    by_cases b2 : v % 4294967296 = 0
    · have e2 : decide (v % 4294967296 = 0) = true := by simpa using b2
      rw [e2] at HBA
      by_cases b3 : v / 8589934592 % 2 = 1
      · rw [if_pos ⟨b1, .inr b3⟩] at hr
        have HC := Lib.hid (fun w => clampL_any (v / 8589934592 + 1) w (by rw [← hr]; exact (I192_rne33 h).1))
        have Hr := Lib.hid hr
        rw [b3] at H0
        clear h hq hr b1 b2 b3 e2
        unfold LG WV at *
        rw [Hr.out]
        go_enter Try.func115, Try.ntmps115
        go_wp2_with first
            | ((with_reducible refine (HO.out _).mono ?_); rintro e w1 ⟨rfl, hb1⟩; obtain ⟨hc1, hf1⟩ := bcell hb1; have z1 := hb1.size; (try simp at z1 hc1 hf1); have lt10 : w.heap.size < w1.heap.size := (by omega); (try have lt11 : w1.heap.size < w1.heap.size := (by omega)); (try have lt12 : w2.heap.size < w1.heap.size := (by omega)))
            | ((with_reducible refine (HD.out _).mono ?_); rintro e w2 ⟨rfl, hb2⟩; obtain ⟨hc2, hf2⟩ := bcell hb2; have z2 := hb2.size; (try simp at z2 hc2 hf2); have lt20 : w.heap.size < w2.heap.size := (by omega); (try have lt21 : w1.heap.size < w2.heap.size := (by omega)); (try have lt22 : w2.heap.size < w2.heap.size := (by omega)))
            | ((with_reducible refine (HBI.out _).mono ?_); rintro e w3 ⟨rfl, hb3⟩; obtain ⟨hc3, hf3⟩ := bcell hb3; have z3 := hb3.size; (try simp at z3 hc3 hf3); have lt30 : w.heap.size < w3.heap.size := (by omega); (try have lt31 : w1.heap.size < w3.heap.size := (by omega)); (try have lt32 : w2.heap.size < w3.heap.size := (by omega)))
            | ((with_reducible refine (HBA.out _).mono ?_); rintro e w4 ⟨rfl, hb4⟩; obtain ⟨hc4, hf4⟩ := bcell hb4; have z4 := hb4.size; (try simp at z4 hc4 hf4); have lt40 : w.heap.size < w4.heap.size := (by omega); (try have lt41 : w1.heap.size < w4.heap.size := (by omega)); (try have lt42 : w2.heap.size < w4.heap.size := (by omega)))
            | ((with_reducible refine (HP.out _).mono ?_); rintro e w5 ⟨rfl, hb5⟩; obtain ⟨hc5, hf5⟩ := bcell hb5; have z5 := hb5.size; (try simp at z5 hc5 hf5); have lt50 : w.heap.size < w5.heap.size := (by omega); (try have lt51 : w1.heap.size < w5.heap.size := (by omega)); (try have lt52 : w2.heap.size < w5.heap.size := (by omega)))
            | ((with_reducible refine (HC.out _).mono ?_); rintro e w6 ⟨rfl, hb6⟩; obtain ⟨hc6, hf6⟩ := bcell hb6; have z6 := hb6.size; (try simp at z6 hc6 hf6); have lt60 : w.heap.size < w6.heap.size := (by omega); (try have lt61 : w1.heap.size < w6.heap.size := (by omega)); (try have lt62 : w2.heap.size < w6.heap.size := (by omega)))
            | fail
        all_goals go_ret2
        all_goals exact ⟨rfl, by (repeat first | assumption | exact Below.refl _ _ | refine Below.drew ?_ | refine Below.drewN ?_ _ | refine Below.alloc ?_ (by (first | omega | (simp; done) | (simp; omega))) _ | refine Below.setCell ?_ (by (first | omega | (simp; done) | (simp; omega))) _ | refine Below.trans ?_ (Below.mono (by assumption) (by (first | omega | (simp; done) | (simp; omega)))))⟩
      · have b3' : v / 8589934592 % 2 = 0 := by omega
        rw [if_neg (by omega)] at hr
        have HC := Lib.hid (fun w => clampL_any (v / 8589934592) w hq)
        have Hr := Lib.hid hr
        rw [b3'] at H0
        clear h hq hr b1 b2 b3 b3' e2
        unfold LG WV at *
        rw [Hr.out]
        go_enter Try.func115, Try.ntmps115
        go_wp2_with first
            | ((with_reducible refine (HO.out _).mono ?_); rintro e w1 ⟨rfl, hb1⟩; obtain ⟨hc1, hf1⟩ := bcell hb1; have z1 := hb1.size; (try simp at z1 hc1 hf1); have lt10 : w.heap.size < w1.heap.size := (by omega); (try have lt11 : w1.heap.size < w1.heap.size := (by omega)); (try have lt12 : w2.heap.size < w1.heap.size := (by omega)))
            | ((with_reducible refine (HD.out _).mono ?_); rintro e w2 ⟨rfl, hb2⟩; obtain ⟨hc2, hf2⟩ := bcell hb2; have z2 := hb2.size; (try simp at z2 hc2 hf2); have lt20 : w.heap.size < w2.heap.size := (by omega); (try have lt21 : w1.heap.size < w2.heap.size := (by omega)); (try have lt22 : w2.heap.size < w2.heap.size := (by omega)))
            | ((with_reducible refine (HBI.out _).mono ?_); rintro e w3 ⟨rfl, hb3⟩; obtain ⟨hc3, hf3⟩ := bcell hb3; have z3 := hb3.size; (try simp at z3 hc3 hf3); have lt30 : w.heap.size < w3.heap.size := (by omega); (try have lt31 : w1.heap.size < w3.heap.size := (by omega)); (try have lt32 : w2.heap.size < w3.heap.size := (by omega)))
            | ((with_reducible refine (HBA.out _).mono ?_); rintro e w4 ⟨rfl, hb4⟩; obtain ⟨hc4, hf4⟩ := bcell hb4; have z4 := hb4.size; (try simp at z4 hc4 hf4); have lt40 : w.heap.size < w4.heap.size := (by omega); (try have lt41 : w1.heap.size < w4.heap.size := (by omega)); (try have lt42 : w2.heap.size < w4.heap.size := (by omega)))
            | ((with_reducible refine (HC.out _).mono ?_); rintro e w6 ⟨rfl, hb6⟩; obtain ⟨hc6, hf6⟩ := bcell hb6; have z6 := hb6.size; (try simp at z6 hc6 hf6); have lt60 : w.heap.size < w6.heap.size := (by omega); (try have lt61 : w1.heap.size < w6.heap.size := (by omega)); (try have lt62 : w2.heap.size < w6.heap.size := (by omega)))
            | fail
        all_goals go_ret2
        all_goals exact ⟨rfl, by (repeat first | assumption | exact Below.refl _ _ | refine Below.drew ?_ | refine Below.drewN ?_ _ | refine Below.alloc ?_ (by (first | omega | (simp; done) | (simp; omega))) _ | refine Below.setCell ?_ (by (first | omega | (simp; done) | (simp; omega))) _ | refine Below.trans ?_ (Below.mono (by assumption) (by (first | omega | (simp; done) | (simp; omega)))))⟩
    · have e2 : decide (v % 4294967296 = 0) = false := by simpa using b2
      rw [e2] at HBA
      rw [if_pos ⟨b1, .inl b2⟩] at hr
      have HC := Lib.hid (fun w => clampL_any (v / 8589934592 + 1) w (by rw [← hr]; exact (I192_rne33 h).1))
      have Hr := Lib.hid hr
      clear h hq hr b1 b2 e2 H0
      unfold LG WV at *
      rw [Hr.out]
      go_enter Try.func115, Try.ntmps115
      go_wp2_with first
            | ((with_reducible refine (HO.out _).mono ?_); rintro e w1 ⟨rfl, hb1⟩; obtain ⟨hc1, hf1⟩ := bcell hb1; have z1 := hb1.size; (try simp at z1 hc1 hf1); have lt10 : w.heap.size < w1.heap.size := (by omega); (try have lt11 : w1.heap.size < w1.heap.size := (by omega)); (try have lt12 : w2.heap.size < w1.heap.size := (by omega)))
            | ((with_reducible refine (HD.out _).mono ?_); rintro e w2 ⟨rfl, hb2⟩; obtain ⟨hc2, hf2⟩ := bcell hb2; have z2 := hb2.size; (try simp at z2 hc2 hf2); have lt20 : w.heap.size < w2.heap.size := (by omega); (try have lt21 : w1.heap.size < w2.heap.size := (by omega)); (try have lt22 : w2.heap.size < w2.heap.size := (by omega)))
            | ((with_reducible refine (HBI.out _).mono ?_); rintro e w3 ⟨rfl, hb3⟩; obtain ⟨hc3, hf3⟩ := bcell hb3; have z3 := hb3.size; (try simp at z3 hc3 hf3); have lt30 : w.heap.size < w3.heap.size := (by omega); (try have lt31 : w1.heap.size < w3.heap.size := (by omega)); (try have lt32 : w2.heap.size < w3.heap.size := (by omega)))
            | ((with_reducible refine (HBA.out _).mono ?_); rintro e w4 ⟨rfl, hb4⟩; obtain ⟨hc4, hf4⟩ := bcell hb4; have z4 := hb4.size; (try simp at z4 hc4 hf4); have lt40 : w.heap.size < w4.heap.size := (by omega); (try have lt41 : w1.heap.size < w4.heap.size := (by omega)); (try have lt42 : w2.heap.size < w4.heap.size := (by omega)))
            | ((with_reducible refine (HP.out _).mono ?_); rintro e w5 ⟨rfl, hb5⟩; obtain ⟨hc5, hf5⟩ := bcell hb5; have z5 := hb5.size; (try simp at z5 hc5 hf5); have lt50 : w.heap.size < w5.heap.size := (by omega); (try have lt51 : w1.heap.size < w5.heap.size := (by omega)); (try have lt52 : w2.heap.size < w5.heap.size := (by omega)))
            | ((with_reducible refine (HC.out _).mono ?_); rintro e w6 ⟨rfl, hb6⟩; obtain ⟨hc6, hf6⟩ := bcell hb6; have z6 := hb6.size; (try simp at z6 hc6 hf6); have lt60 : w.heap.size < w6.heap.size := (by omega); (try have lt61 : w1.heap.size < w6.heap.size := (by omega)); (try have lt62 : w2.heap.size < w6.heap.size := (by omega)))
            | fail
      all_goals go_ret2
      all_goals exact ⟨rfl, by (repeat first | assumption | exact Below.refl _ _ | refine Below.drew ?_ | refine Below.drewN ?_ _ | refine Below.alloc ?_ (by (first | omega | (simp; done) | (simp; omega))) _ | refine Below.setCell ?_ (by (first | omega | (simp; done) | (simp; omega))) _ | refine Below.trans ?_ (Below.mono (by assumption) (by (first | omega | (simp; done) | (simp; omega)))))⟩
  · have b1' : v / 4294967296 % 2 = 0 := by omega
    rw [b1'] at HBI
    rw [if_neg (by omega)] at hr
    have HC := Lib.hid (fun w => clampL_any (v / 8589934592) w hq)
    have Hr := Lib.hid hr
    clear h hq hr b1 b1' H0
    unfold LG WV at *
    rw [Hr.out]
    go_enter Try.func115, Try.ntmps115
    go_wp2_with first
            | ((with_reducible refine (HO.out _).mono ?_); rintro e w1 ⟨rfl, hb1⟩; obtain ⟨hc1, hf1⟩ := bcell hb1; have z1 := hb1.size; (try simp at z1 hc1 hf1); have lt10 : w.heap.size < w1.heap.size := (by omega); (try have lt11 : w1.heap.size < w1.heap.size := (by omega)); (try have lt12 : w2.heap.size < w1.heap.size := (by omega)))
            | ((with_reducible refine (HD.out _).mono ?_); rintro e w2 ⟨rfl, hb2⟩; obtain ⟨hc2, hf2⟩ := bcell hb2; have z2 := hb2.size; (try simp at z2 hc2 hf2); have lt20 : w.heap.size < w2.heap.size := (by omega); (try have lt21 : w1.heap.size < w2.heap.size := (by omega)); (try have lt22 : w2.heap.size < w2.heap.size := (by omega)))
            | ((with_reducible refine (HBI.out _).mono ?_); rintro e w3 ⟨rfl, hb3⟩; obtain ⟨hc3, hf3⟩ := bcell hb3; have z3 := hb3.size; (try simp at z3 hc3 hf3); have lt30 : w.heap.size < w3.heap.size := (by omega); (try have lt31 : w1.heap.size < w3.heap.size := (by omega)); (try have lt32 : w2.heap.size < w3.heap.size := (by omega)))
            | ((with_reducible refine (HC.out _).mono ?_); rintro e w6 ⟨rfl, hb6⟩; obtain ⟨hc6, hf6⟩ := bcell hb6; have z6 := hb6.size; (try simp at z6 hc6 hf6); have lt60 : w.heap.size < w6.heap.size := (by omega); (try have lt61 : w1.heap.size < w6.heap.size := (by omega)); (try have lt62 : w2.heap.size < w6.heap.size := (by omega)))
            | fail
    all_goals go_ret2
    all_goals exact ⟨rfl, by (repeat first | assumption | exact Below.refl _ _ | refine Below.drew ?_ | refine Below.drewN ?_ _ | refine Below.alloc ?_ (by (first | omega | (simp; done) | (simp; omega))) _ | refine Below.setCell ?_ (by (first | omega | (simp; done) | (simp; omega))) _ | refine Below.trans ?_ (Below.mono (by assumption) (by (first | omega | (simp; done) | (simp; omega)))))⟩
end Go.Proofs.Ytkmfdggodinjaaa
