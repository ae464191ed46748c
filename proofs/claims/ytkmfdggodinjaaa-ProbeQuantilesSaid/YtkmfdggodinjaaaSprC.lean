/-
  Layer probe: where the example's numbers lie.
-/
import Derived.Test.YtkmfdggodinjaaaSprB
namespace Go.Proofs.Ytkmfdggodinjaaa
open Go.RowKit
set_option linter.unusedVariables false
set_option linter.unusedSimpArgs false

set_option maxHeartbeats 400000 in
theorem some_any (a : Option Addr) (n c : Nat) (w : World) (h0 : 0 < n) (hn : n ≤ 65536) :
    Calls Try.prog 23 #[.slice a n c] w fun e w' => e = .returned (.int .i64 0) ∧ w = w' := by
  have h1 : ¬ ((65536 : Int) < (n : Int)) := by omega
  have h2 : ((n : Int) == 0) = false := by simpa using (by omega : ¬ (n : Int) = 0)
  go_enter Try.func23, Try.ntmps23
  go_wp2
  go_ret
  exact ⟨rfl, rfl⟩

theorem exL_rd {w : World} {b o : Nat} (h0 : w.cell? ⟨b, o, none⟩ = some (.int .i64 12884901888)) (h1 : w.cell? ⟨b, o + 1, none⟩ = some (.int .i64 0)) (h2 : w.cell? ⟨b, o + 2, none⟩ = some (.int .i64 (-17179869184))) : Rd w .i64 (some ⟨b, o, none⟩) 3 exL := by
  refine ⟨rfl, by omega, fun _ => ⟨b, o, rfl, World.block_lt_of_cell? _ _ h0, fun j hj => ?_⟩⟩
  match j, hj with
  | 0, _ => exact h0
  | 1, _ => exact h1
  | 2, _ => exact h2
theorem exL_64 : A64 exL := fun i => by
  match i with
  | 0 => unfold exL I64; simp
  | 1 => unfold exL I64; simp
  | 2 => unfold exL I64; simp
  | i + 3 => unfold exL I64; simp
theorem exL_mean : clampI (meanI exL 3) = -1431655765 := by decide +kernel
theorem exL_sq : sqS exL 3 = 461168601842738790400 := by decide +kernel

set_option maxHeartbeats 3200000 in
set_option maxRecDepth 100000 in
theorem Spread_ex (b o c : Nat) (w : World) (h0 : w.cell? ⟨b, o, none⟩ = some (.int .i64 12884901888)) (h1 : w.cell? ⟨b, o + 1, none⟩ = some (.int .i64 0)) (h2 : w.cell? ⟨b, o + 2, none⟩ = some (.int .i64 (-17179869184))) :
    Calls Try.prog 13 #[.slice (some ⟨b, o, none⟩) 3 c] w fun e w' => ∃ rm rn, e = .returned (.tuple #[.agg #[.float .f64 13839561654909534208, .float .f64 rm, .float .f64 rn, .float .f64 4617315517961601024, .int .i64 1], .int .i64 0]) ∧ Below w.heap.size w w' := by
  have hbw : b < w.heap.size := World.block_lt_of_cell? _ _ h0
  have hr := exL_rd h0 h1 h2
  obtain ⟨rm, hrm⟩ := fl_some fl_most
  obtain ⟨rn, hrn⟩ := fl_some fl_mean
  have HSo := Lib.hid (fun w => some_any (some ⟨b, o, none⟩) 3 c w (by omega) (by omega))
  have HMe := Lib.hid (fun w' (hb' : Below w.heap.size w w') => Mean_any none 0 3 c (some ⟨b, o, none⟩) exL w' (hr.kept hb') (by omega) (by omega) exL_64 (Un.none _ _))
  rw [show uV none = .pointer none from rfl, exL_mean] at HMe
  have HNo := Lib.hid (fun w' (hb' : Below w.heap.size w w') => Norm_at (some ⟨b, o, none⟩) 3 c exL 21474836480 w' (hr.kept hb') (by omega) exL_64 (by rw [exL_sq]; omega) (by rw [exL_sq]; omega) (by omega) (by rw [exL_sq]; decide) (by rw [exL_sq]; decide) (by unfold I64; omega))
  have HMi := Lib.hid (fun w' (hb' : Below w.heap.size w w') => sMin_ex b o c w' ((hb'.cell (p := ⟨b, o, none⟩) hbw).trans h0) ((hb'.cell (p := ⟨b, o + 1, none⟩) hbw).trans h1) ((hb'.cell (p := ⟨b, o + 2, none⟩) hbw).trans h2))
  have HMa := Lib.hid (fun w' (hb' : Below w.heap.size w w') => sMax_ex b o c w' ((hb'.cell (p := ⟨b, o, none⟩) hbw).trans h0) ((hb'.cell (p := ⟨b, o + 1, none⟩) hbw).trans h1) ((hb'.cell (p := ⟨b, o + 2, none⟩) hbw).trans h2))
  have F1 := Lib.hid (fun w => Float_at _ _ w fl_least)
  have F2 := Lib.hid (fun w => Float_at _ _ w hrm)
  have F3 := Lib.hid (fun w => Float_at _ _ w hrn)
  have F4 := Lib.hid (fun w => Float_at _ _ w fl_length)
  have K0 := Lib.hid h0; have K1 := Lib.hid h1; have K2 := Lib.hid h2
  clear hr hrm hrn h0 h1 h2
  have HSf : ∀ (a : Addr) (n : Nat) (w : World), (store a (.float .f64 n)).run Try.prog w = stored Try.prog w a (.float .f64 n) .plain := fun a n w => run_store Try.prog w a _ _ rfl
  go_enter Try.func13, Try.ntmps13
  go_wp2_with fail
  ((with_reducible refine (HSo.out _).mono ?_); rintro e w1 ⟨rfl, rfl⟩)
  go_wp2_with fail
  ((with_reducible refine (HMe.out _ (by (repeat first | assumption | exact Below.refl _ _ | refine Below.drew ?_ | refine Below.drewN ?_ _ | refine Below.alloc ?_ (by (first | omega | (simp; done) | (simp; omega))) _ | refine Below.setCell ?_ (by (first | omega | (simp; done) | (simp; omega))) _ | refine Below.trans ?_ (Below.mono (by assumption) (by (first | omega | (simp; done) | (simp; omega))))))).mono ?_); rintro e w2 ⟨rfl, hc2, _⟩)
  have hb2 := hc2.below (Nat.le_refl _) (fun k hk => by cases hk)
  have Hb2 : Hid (Below w.heap.size w w2) := Lib.hid (by (repeat first | assumption | exact Below.refl _ _ | refine Below.drew ?_ | refine Below.drewN ?_ _ | refine Below.alloc ?_ (by (first | omega | (simp; done) | (simp; omega))) _ | refine Below.setCell ?_ (by (first | omega | (simp; done) | (simp; omega))) _ | refine Below.trans ?_ (Below.mono (by assumption) (by (first | omega | (simp; done) | (simp; omega))))))
  have hz2 := Hb2.out.size
  have lt2 : w.heap.size < w2.heap.size := by have := hb2.size; simp at this; omega
  have RC : Hid (w2.cell? ⟨w.heap.size, 0, none⟩ = some (.float .f64 0) ∧ w2.cell? ⟨w.heap.size, 1, none⟩ = some (.float .f64 0) ∧ w2.cell? ⟨w.heap.size, 2, none⟩ = some (.float .f64 0) ∧ w2.cell? ⟨w.heap.size, 3, none⟩ = some (.float .f64 0) ∧ w2.cell? ⟨w.heap.size, 4, none⟩ = some (.int .i64 0) ∧ ∀ i, w2.frozen? ⟨w.heap.size, i, none⟩ = false) := Lib.hid
    ⟨(hb2.cell (p := ⟨w.heap.size, 0, none⟩) (by simp)).trans (by go_simp), (hb2.cell (p := ⟨w.heap.size, 1, none⟩) (by simp)).trans (by go_simp), (hb2.cell (p := ⟨w.heap.size, 2, none⟩) (by simp)).trans (by go_simp), (hb2.cell (p := ⟨w.heap.size, 3, none⟩) (by simp)).trans (by go_simp), (hb2.cell (p := ⟨w.heap.size, 4, none⟩) (by simp)).trans (by go_simp), fun i => (hb2.frozen (p := ⟨w.heap.size, i, none⟩) (by simp)).trans (by go_simp)⟩
  clear hc2 hb2
  go_wp2_with fail
  ((with_reducible refine (HNo.out _ Hb2.out).mono ?_); rintro e w3 ⟨rfl, hb3⟩)
  have Hb3 : Hid (Below w.heap.size w w3) := Lib.hid (Hb2.out.trans (hb3.mono hz2))
  have lt3 : w.heap.size < w3.heap.size := by have := hb3.size; omega
  obtain ⟨r0, r1, r2, r3, r4, rf⟩ := RC.out
  have s0 : w3.cell? ⟨w.heap.size, 0, none⟩ = some (.float .f64 0) := (hb3.cell (p := ⟨w.heap.size, 0, none⟩) lt2).trans r0
  have s1 : w3.cell? ⟨w.heap.size, 1, none⟩ = some (.float .f64 0) := (hb3.cell (p := ⟨w.heap.size, 1, none⟩) lt2).trans r1
  have s2 : w3.cell? ⟨w.heap.size, 2, none⟩ = some (.float .f64 0) := (hb3.cell (p := ⟨w.heap.size, 2, none⟩) lt2).trans r2
  have s3 : w3.cell? ⟨w.heap.size, 3, none⟩ = some (.float .f64 0) := (hb3.cell (p := ⟨w.heap.size, 3, none⟩) lt2).trans r3
  have s4 : w3.cell? ⟨w.heap.size, 4, none⟩ = some (.int .i64 0) := (hb3.cell (p := ⟨w.heap.size, 4, none⟩) lt2).trans r4
  have sf : ∀ i, w3.frozen? ⟨w.heap.size, i, none⟩ = false := fun i => (hb3.frozen (p := ⟨w.heap.size, i, none⟩) lt2).trans (rf i)
  have c0 : w3.cell? ⟨b, o, none⟩ = some (.int .i64 12884901888) := (Hb3.out.cell (p := ⟨b, o, none⟩) hbw).trans K0.out
  have c1 : w3.cell? ⟨b, o + 1, none⟩ = some (.int .i64 0) := (Hb3.out.cell (p := ⟨b, o + 1, none⟩) hbw).trans K1.out
  have c2 : w3.cell? ⟨b, o + 2, none⟩ = some (.int .i64 (-17179869184)) := (Hb3.out.cell (p := ⟨b, o + 2, none⟩) hbw).trans K2.out
  have hb3l : b < w3.heap.size := by omega
  have hnb : w3.heap.size ≠ b := by omega
  have hnw : w3.heap.size ≠ w.heap.size := by omega
  have hnb2 : w.heap.size ≠ b := by omega
  clear hb3 r0 r1 r2 r3 r4 rf RC HMe HNo HSo
  go_wp2_with first
    | ((with_reducible refine (HMi.out _ Hb3.out).mono ?_); rintro e w4 ⟨rfl, rfl⟩)
    | ((with_reducible refine (HMa.out _ Hb3.out).mono ?_); rintro e w4 ⟨rfl, rfl⟩)
    | ((with_reducible refine (F1.out _).mono ?_); rintro e w4 ⟨rfl, rfl⟩)
    | ((with_reducible refine (F2.out _).mono ?_); rintro e w4 ⟨rfl, rfl⟩)
    | ((with_reducible refine (F3.out _).mono ?_); rintro e w4 ⟨rfl, rfl⟩)
    | ((with_reducible refine (F4.out _).mono ?_); rintro e w4 ⟨rfl, rfl⟩)
    | fail
  refine wp_loop_rounds 4 ?_
  rw [rounds_succ]
  go_wp2
  rw [rounds_succ]
  go_wp2
  rw [rounds_succ]
  go_wp2
  rw [rounds_succ]
  go_wp2
  have hE : (((((w3.setCell ⟨w.heap.size, 0, none⟩ (.float .f64 13839561654909534208)).setCell ⟨w.heap.size, 1, none⟩ (.float .f64 rm)).setCell ⟨w.heap.size, 2, none⟩ (.float .f64 rn)).setCell ⟨w.heap.size, 3, none⟩ (.float .f64 4617315517961601024)).setCell ⟨w.heap.size, 4, none⟩ (.int .i64 1)).cell? ⟨w.heap.size, 0, none⟩ = some (.float .f64 13839561654909534208) ∧ (((((w3.setCell ⟨w.heap.size, 0, none⟩ (.float .f64 13839561654909534208)).setCell ⟨w.heap.size, 1, none⟩ (.float .f64 rm)).setCell ⟨w.heap.size, 2, none⟩ (.float .f64 rn)).setCell ⟨w.heap.size, 3, none⟩ (.float .f64 4617315517961601024)).setCell ⟨w.heap.size, 4, none⟩ (.int .i64 1)).cell? ⟨w.heap.size, 1, none⟩ = some (.float .f64 rm) ∧ (((((w3.setCell ⟨w.heap.size, 0, none⟩ (.float .f64 13839561654909534208)).setCell ⟨w.heap.size, 1, none⟩ (.float .f64 rm)).setCell ⟨w.heap.size, 2, none⟩ (.float .f64 rn)).setCell ⟨w.heap.size, 3, none⟩ (.float .f64 4617315517961601024)).setCell ⟨w.heap.size, 4, none⟩ (.int .i64 1)).cell? ⟨w.heap.size, 2, none⟩ = some (.float .f64 rn) ∧ (((((w3.setCell ⟨w.heap.size, 0, none⟩ (.float .f64 13839561654909534208)).setCell ⟨w.heap.size, 1, none⟩ (.float .f64 rm)).setCell ⟨w.heap.size, 2, none⟩ (.float .f64 rn)).setCell ⟨w.heap.size, 3, none⟩ (.float .f64 4617315517961601024)).setCell ⟨w.heap.size, 4, none⟩ (.int .i64 1)).cell? ⟨w.heap.size, 3, none⟩ = some (.float .f64 4617315517961601024) ∧ (((((w3.setCell ⟨w.heap.size, 0, none⟩ (.float .f64 13839561654909534208)).setCell ⟨w.heap.size, 1, none⟩ (.float .f64 rm)).setCell ⟨w.heap.size, 2, none⟩ (.float .f64 rn)).setCell ⟨w.heap.size, 3, none⟩ (.float .f64 4617315517961601024)).setCell ⟨w.heap.size, 4, none⟩ (.int .i64 1)).cell? ⟨w.heap.size, 4, none⟩ = some (.int .i64 1) ∧ w.heap.size < (((((w3.setCell ⟨w.heap.size, 0, none⟩ (.float .f64 13839561654909534208)).setCell ⟨w.heap.size, 1, none⟩ (.float .f64 rm)).setCell ⟨w.heap.size, 2, none⟩ (.float .f64 rn)).setCell ⟨w.heap.size, 3, none⟩ (.float .f64 4617315517961601024)).setCell ⟨w.heap.size, 4, none⟩ (.int .i64 1)).heap.size := ⟨by go_simp, by go_simp, by go_simp, by go_simp, by go_simp, by simp; omega⟩
  have HB5 : Hid (Below w.heap.size w (((((w3.setCell ⟨w.heap.size, 0, none⟩ (.float .f64 13839561654909534208)).setCell ⟨w.heap.size, 1, none⟩ (.float .f64 rm)).setCell ⟨w.heap.size, 2, none⟩ (.float .f64 rn)).setCell ⟨w.heap.size, 3, none⟩ (.float .f64 4617315517961601024)).setCell ⟨w.heap.size, 4, none⟩ (.int .i64 1))) := Lib.hid (by have := Hb3.out; (repeat first | assumption | exact Below.refl _ _ | refine Below.drew ?_ | refine Below.drewN ?_ _ | refine Below.alloc ?_ (by (first | omega | (simp; done) | (simp; omega))) _ | refine Below.setCell ?_ (by (first | omega | (simp; done) | (simp; omega))) _ | refine Below.trans ?_ (Below.mono (by assumption) (by (first | omega | (simp; done) | (simp; omega))))))
  generalize (((((w3.setCell ⟨w.heap.size, 0, none⟩ (.float .f64 13839561654909534208)).setCell ⟨w.heap.size, 1, none⟩ (.float .f64 rm)).setCell ⟨w.heap.size, 2, none⟩ (.float .f64 rn)).setCell ⟨w.heap.size, 3, none⟩ (.float .f64 4617315517961601024)).setCell ⟨w.heap.size, 4, none⟩ (.int .i64 1)) = W5 at *
  obtain ⟨e0, e1, e2, e3, e4, e5⟩ := hE
  have g0 : (W5.alloc (.cells #[.float .f64 13839561654909534208, .float .f64 rm, .float .f64 rn, .float .f64 4617315517961601024, .int .i64 1] 38)).cell? ⟨w.heap.size, 0, none⟩ = some (.float .f64 13839561654909534208) := by rw [World.cell?_alloc_past _ _ _ e5]; exact e0
  have g1 : (W5.alloc (.cells #[.float .f64 13839561654909534208, .float .f64 rm, .float .f64 rn, .float .f64 4617315517961601024, .int .i64 1] 38)).cell? ⟨w.heap.size, 1, none⟩ = some (.float .f64 rm) := by rw [World.cell?_alloc_past _ _ _ e5]; exact e1
  have g2 : (W5.alloc (.cells #[.float .f64 13839561654909534208, .float .f64 rm, .float .f64 rn, .float .f64 4617315517961601024, .int .i64 1] 38)).cell? ⟨w.heap.size, 2, none⟩ = some (.float .f64 rn) := by rw [World.cell?_alloc_past _ _ _ e5]; exact e2
  have g3 : (W5.alloc (.cells #[.float .f64 13839561654909534208, .float .f64 rm, .float .f64 rn, .float .f64 4617315517961601024, .int .i64 1] 38)).cell? ⟨w.heap.size, 3, none⟩ = some (.float .f64 4617315517961601024) := by rw [World.cell?_alloc_past _ _ _ e5]; exact e3
  have g4 : (W5.alloc (.cells #[.float .f64 13839561654909534208, .float .f64 rm, .float .f64 rn, .float .f64 4617315517961601024, .int .i64 1] 38)).cell? ⟨w.heap.size, 4, none⟩ = some (.int .i64 1) := by rw [World.cell?_alloc_past _ _ _ e5]; exact e4
  refine bodyPost_ret (v := .tuple #[.agg #[.float .f64 13839561654909534208, .float .f64 rm, .float .f64 rn, .float .f64 4617315517961601024, .int .i64 1], .int .i64 0]) ?_ rfl ⟨rm, rn, rfl, HB5.out.alloc (Nat.le_of_lt e5) _⟩
  clear s0 s1 s2 s3 s4 sf c0 c1 c2
  simp [results, Try.results13, go_sem, g0, g1, g2, g3, g4]
end Go.Proofs.Ytkmfdggodinjaaa
