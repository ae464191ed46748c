/-
  Layer vec: sums of parts, and numbers taken.
-/
import Derived.Test.YtkmfdggodinjaaaMlpJ
namespace Go.Proofs.Ytkmfdggodinjaaa
open Go.RowKit
set_option linter.unusedVariables false
set_option linter.unusedSimpArgs false

/-! ### sums of parts -/
def sumI (l : List Int) : Nat → Int
  | 0 => 0
  | k + 1 => sumI l k + l[k]?.getD 0
theorem sumI_bd {l : List Int} (h : A64 l) : ∀ k, -(k * 9223372036854775808) ≤ sumI l k ∧ sumI l k ≤ k * 9223372036854775808
  | 0 => by simp [sumI]
  | k + 1 => by
    have h1 := sumI_bd h k
    have h2 := h k
    unfold I64 at h2
    simp only [sumI]
    omega
/-- A wide number's cells at a block. -/
structure WAt (w : World) (g : Nat) (v : Int) : Prop where
  c0 : w.cell? ⟨g, 0, none⟩ = some (.int .i64 (whi v))
  c1 : w.cell? ⟨g, 1, none⟩ = some (.int .u64 (wlo v))
  f : ∀ i, w.frozen? ⟨g, i, none⟩ = false
theorem WAt.lt {w : World} {g : Nat} {v : Int} (h : WAt w g v) : g < w.heap.size := World.block_lt_of_cell? _ _ h.c0
theorem WAt.kept {w w' : World} {g : Nat} {v : Int} (h : WAt w g v) (hb : Below w.heap.size w w') : WAt w' g v :=
  ⟨(hb.cell (p := ⟨g, 0, none⟩) h.lt).trans h.c0, (hb.cell (p := ⟨g, 1, none⟩) h.lt).trans h.c1, fun i => (hb.frozen (p := ⟨g, i, none⟩) h.lt).trans (h.f i)⟩
theorem WAt.set {w : World} {g : Nat} {v : Int} (h : WAt w g v) (v' : Int) : WAt ((w.setCell ⟨g, 0, none⟩ (.int .i64 (whi v'))).setCell ⟨g, 1, none⟩ (.int .u64 (wlo v'))) g v' := by
  obtain ⟨c0, c1, f⟩ := h
  exact ⟨by go_simp, by go_simp, fun i => by go_simp⟩
theorem whi0 : whi 0 = 0 := by unfold whi wrap64; omega
theorem wlo0 : wlo 0 = 0 := by decide
theorem WAt.zero (w : World) : WAt (w.alloc (.cells #[.int .i64 0, .int .u64 0] 102)) w.heap.size 0 := ⟨by rw [whi0]; exact World.cell?_alloc_at _ _ _ _ rfl, by rw [wlo0]; exact World.cell?_alloc_at _ _ _ _ rfl, fun i => by go_simp⟩

set_option maxHeartbeats 1600000 in
set_option maxRecDepth 20000 in
theorem total_any (a : Option Addr) (n c : Nat) (l : List Int) (w : World) (h : Rd w .i64 a n l) (hn : n ≤ 65536) (ia : A64 l) :
    Calls Try.prog 55 #[.slice a n c] w fun e w' => e = .returned (W (sumI l n)) ∧ Below w.heap.size w w' := by
  have HA := Lib.hid h
  have IA := Lib.hid ia
  clear h ia
  go_enter Try.func55, Try.ntmps55
  go_wp2
  have hR0 : Hid (WAt ((w.alloc (.cells #[.int .i64 0, .int .u64 0] 102)).alloc (.cells #[.int .i64 0, .int .u64 0] 102)) w.heap.size 0) := Lib.hid ((WAt.zero w).kept ((Below.refl _ _).alloc (Nat.le_refl _) _))
  have hT0 : Hid (WAt ((w.alloc (.cells #[.int .i64 0, .int .u64 0] 102)).alloc (.cells #[.int .i64 0, .int .u64 0] 102)) (w.heap.size + 1) 0) := Lib.hid (by
    have h9 := WAt.zero (w.alloc (.cells #[.int .i64 0, .int .u64 0] 102))
    rw [show (w.alloc (.cells #[.int .i64 0, .int .u64 0] 102)).heap.size = w.heap.size + 1 by simp] at h9
    exact h9)
  have hb0 : Hid (Below w.heap.size w ((w.alloc (.cells #[.int .i64 0, .int .u64 0] 102)).alloc (.cells #[.int .i64 0, .int .u64 0] 102))) := Lib.hid (by (repeat first | assumption | exact Below.refl _ _ | refine Below.drew ?_ | refine Below.drewN ?_ _ | refine Below.alloc ?_ (by (first | omega | (simp; done) | (simp; omega))) _ | refine Below.setCell ?_ (by (first | omega | (simp; done) | (simp; omega))) _ | refine Below.trans ?_ (Below.mono (by assumption) (by (first | omega | (simp; done) | (simp; omega))))))
  have hz0 : w.heap.size + 2 ≤ ((w.alloc (.cells #[.int .i64 0, .int .u64 0] 102)).alloc (.cells #[.int .i64 0, .int .u64 0] 102)).heap.size := by simp
  generalize hW0 : (w.alloc (.cells #[.int .i64 0, .int .u64 0] 102)).alloc (.cells #[.int .i64 0, .int .u64 0] 102) = W0 at *
  clear hW0
  go_loopw [8] (fun j wr => ∃ i : Nat, i ≤ n ∧ j = .int .i64 i ∧ Hid (WAt wr (w.heap.size + 1) (sumI l i)) ∧ Hid (Chg (fun k => k = w.heap.size + 1) W0 wr)) (fun j _ => n - (intOf j).toNat)
  case atStart => exact ⟨0, Nat.zero_le _, rfl, hT0.out, Chg.refl _ _⟩
  case round =>
    obtain ⟨i, hi, rfl, hwt, hch⟩ := hrel
    have hzr := hch.out.size
    by_cases hlt : i < n
    · obtain ⟨ba, oa, rfl, hba, hca⟩ := HA.out.at hlt
      have ea : wr.cell? ⟨ba, oa + i, none⟩ = some (.int .i64 (l[i]?.getD 0)) := (hch.out.cell (k := ba) (by omega) (by omega)).trans ((hb0.out.cell (p := ⟨ba, oa + i, none⟩) hba).trans hca)
      have HO := Lib.hid (fun w => Of_any (l[i]?.getD 0) w (IA.out i))
      have HD := Lib.hid (fun w => Add_any (sumI l i) (l[i]?.getD 0) w)
      have Hs : Hid (sumI l i + l[i]?.getD 0 = sumI l (i + 1)) := Lib.hid rfl
      rw [Hs.out] at HD
      have hi0 : (0 : Int) ≤ (i : Int) := by omega
      have hin : (i : Int) < (n : Int) := by omega
      clear hca
      generalize l[i]?.getD 0 = z at *
      unfold W at HO HD
      obtain ⟨u0, u1, uf⟩ := hwt.out
      go_wp2
      go_region_with (first
        | ((with_reducible refine (HO.out _).mono ?_); rintro e w5 ⟨rfl, hb5⟩; have z5 := hb5.size; (try simp at z5); have k5 := hwt.out.kept (w' := w5) (by (repeat first | assumption | exact Below.refl _ _ | refine Below.drew ?_ | refine Below.drewN ?_ _ | refine Below.alloc ?_ (by (first | omega | (simp; done) | (simp; omega))) _ | refine Below.setCell ?_ (by (first | omega | (simp; done) | (simp; omega))) _ | refine Below.trans ?_ (Below.mono (by assumption) (by (first | omega | (simp; done) | (simp; omega)))))); obtain ⟨_, _, f5⟩ := k5)
        | ((with_reducible refine (HD.out _).mono ?_); rintro e w6 ⟨rfl, hb6⟩; have z6 := hb6.size; (try simp at z6); have k6 := hwt.out.kept (w' := w6) (by (repeat first | assumption | exact Below.refl _ _ | refine Below.drew ?_ | refine Below.drewN ?_ _ | refine Below.alloc ?_ (by (first | omega | (simp; done) | (simp; omega))) _ | refine Below.setCell ?_ (by (first | omega | (simp; done) | (simp; omega))) _ | refine Below.trans ?_ (Below.mono (by assumption) (by (first | omega | (simp; done) | (simp; omega)))))); have k6' := k6; obtain ⟨_, _, f6⟩ := k6'))
      all_goals
        have HW7 := Lib.hid (k6.set (sumI l (i + 1)))
        have HC6 : Hid (Chg (fun k => k = w.heap.size + 1) W0 w6) := Lib.hid (by have := hch.out; (repeat first | assumption | exact Chg.refl _ _ | refine Chg.drew ?_ | refine Chg.drewN ?_ _ | refine Chg.alloc ?_ _ | refine Chg.setCell_in ?_ _ (by first | rfl | simp) _ | refine Chg.setCell ?_ _ (by (first | omega | (simp; done) | (simp; omega))) _ | refine Chg.then_below ?_ (by assumption) (by (first | omega | (simp; done) | (simp; omega)))))
        have HC7 := Lib.hid ((HC6.out.setCell_in ⟨w.heap.size + 1, 0, none⟩ (show w.heap.size + 1 = w.heap.size + 1 from rfl) (.int .i64 (whi (sumI l (i + 1))))).setCell_in ⟨w.heap.size + 1, 1, none⟩ (show w.heap.size + 1 = w.heap.size + 1 from rfl) (.int .u64 (wlo (sumI l (i + 1)))))
        clear hb5 hb6 k6 f5 f6 HO HD ea
        go_wp2
        go_roundw
        case rel => exact ⟨i + 1, by omega, by go_num, HW7.out, HC7.out⟩
        case measure => simp [intOf]; omega
    · obtain rfl : i = n := by omega
      obtain ⟨u0, u1, uf⟩ := hwt.out
      have hR := (hR0.out)
      have hRc0 := hR.c0
      have hRc1 := hR.c1
      rw [whi0] at hRc0
      rw [wlo0] at hRc1
      have r0 : wr.cell? ⟨w.heap.size, 0, none⟩ = some (.int .i64 0) := (hch.out.cell (k := w.heap.size) (by omega) (by omega)).trans hRc0
      have r1 : wr.cell? ⟨w.heap.size, 1, none⟩ = some (.int .u64 0) := (hch.out.cell (k := w.heap.size) (by omega) (by omega)).trans hRc1
      have rf : ∀ j, wr.frozen? ⟨w.heap.size, j, none⟩ = false := fun j => (hch.out.frozen (k := w.heap.size) (by omega) (by omega)).trans (hR.f j)
      have HRr : Hid (WAt ((wr.setCell ⟨w.heap.size, 0, none⟩ (.int .i64 (whi (sumI l i)))).setCell ⟨w.heap.size, 1, none⟩ (.int .u64 (wlo (sumI l i)))) w.heap.size (sumI l i)) := Lib.hid (WAt.set (v := 0) ⟨by rw [whi0]; exact r0, by rw [wlo0]; exact r1, rf⟩ _)
      have hbw : Hid (Below w.heap.size w wr) := Lib.hid (hb0.out.trans (hch.out.below (by omega) (by rintro k rfl; omega)))
      clear hR
      go_wp2
      obtain ⟨q0, q1, qf⟩ := HRr.out
      exact bodyPost_ret (v := .agg #[.int .i64 (whi (sumI l i)), .int .u64 (wlo (sumI l i))]) (by simp [results, Try.results55, go_sem, q0, q1]) rfl ⟨rfl, (hbw.out.setCell (Nat.le_refl _) _).setCell (Nat.le_refl _) _⟩

theorem sumI_I128 {l : List Int} (h : A64 l) {n : Nat} (hn : n ≤ 65536) : I128 (sumI l n) := by
  have := sumI_bd h n
  unfold I128; omega

set_option maxHeartbeats 800000 in
set_option maxRecDepth 20000 in
theorem vtake_any (u : Option Nat) (n v : Int) (w : World) (h : Un w u n) (hv : I128 v) :
    Calls Try.prog 56 #[uV u, W v] w fun e w' => e = .returned (.int .i64 (clampI v)) ∧ Chg (UC u) w w' ∧ Un w' u (upC n (over v)) := by
  have HC := Lib.hid (fun w => Clamp_any v w hv)
  have HT := Lib.hid (fun w h => Take_u u n (clampI v) (over v) w h)
  have Hu := Lib.hid h
  clear h hv
  generalize uV u = p at *
  unfold W at *
  go_enter Try.func56, Try.ntmps56
  go_wp2_with first
    | ((with_reducible refine (HC.out _).mono ?_); rintro e w1 ⟨rfl, hb1⟩; have hbb : Hid (Below w.heap.size w w1) := Lib.hid (by (repeat first | assumption | exact Below.refl _ _ | refine Below.drew ?_ | refine Below.drewN ?_ _ | refine Below.alloc ?_ (by (first | omega | (simp; done) | (simp; omega))) _ | refine Below.setCell ?_ (by (first | omega | (simp; done) | (simp; omega))) _ | refine Below.trans ?_ (Below.mono (by assumption) (by (first | omega | (simp; done) | (simp; omega)))))))
    | ((with_reducible refine (HT.out _ (Hu.out.kept hbb.out)).mono ?_); rintro e w2 ⟨rfl, hc2, hu2⟩)
    | fail
  go_ret
  exact ⟨rfl, hc2.after_below hbb.out, hu2⟩

set_option maxHeartbeats 400000 in
theorem fits1_any (g : Nat) (a1 : Option Addr) (n1 c1 : Nat) (w : World) (h1 : w.cell? ⟨g, 0, none⟩ = some (.slice a1 n1 c1)) (l1 : n1 ≤ 65536) :
    Calls Try.prog 53 #[.slice (some ⟨g, 0, none⟩) 1 1] w fun e w' => e = .returned (.bool true) ∧ w = w' := by
  go_enter Try.func53, Try.ntmps53
  go_wp2
  refine wp_loop_rounds 2 ?_
  rw [rounds_succ]
  go_wp2
  rw [rounds_succ]
  go_wp2
  go_ret
  exact ⟨rfl, rfl⟩
end Go.Proofs.Ytkmfdggodinjaaa
