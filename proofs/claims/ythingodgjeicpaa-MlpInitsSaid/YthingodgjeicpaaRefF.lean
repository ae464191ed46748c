/-
  regattaref02: a number more in a sum, a product more.
-/
import Derived.Test.YthingodgjeicpaaRefE
namespace Go.Proofs.Ythingodgjeicpaa
open Go.RowKit
set_option linter.unusedVariables false
set_option linter.unusedSimpArgs false

theorem start12 (w : World) (p n : Int) : ∃ W, (w.alloc (.cells (SGc p n) 91)).alloc (.cells (SGc 0 0) 91) = W ∧ SGAt W w.heap.size p n ∧ SGAt W (w.heap.size + 1) 0 0 ∧ Below w.heap.size w W ∧ W.heap.size = w.heap.size + 2 := by
  refine ⟨_, rfl, ?_, ?_, ?_, by simp⟩
  · exact (SGAt.alloc w p n).kept ((Below.refl _ _).alloc (Nat.le_refl _) _)
  · have h := SGAt.alloc (w.alloc (.cells (SGc p n) 91)) 0 0
    rw [show (w.alloc (.cells (SGc p n) 91)).heap.size = w.heap.size + 1 by simp] at h
    exact h
  · (repeat first | assumption | exact Below.refl _ _ | refine Below.drew ?_ | refine Below.drewN ?_ _ | refine Below.alloc ?_ (by (first | omega | (simp; done) | (simp; omega))) _ | refine Below.setCell ?_ (by (first | omega | (simp; done) | (simp; omega))) _ | refine Below.trans ?_ (Below.mono (by assumption) (by (first | omega | (simp; done) | (simp; omega)))))


set_option maxHeartbeats 3200000 in
set_option maxRecDepth 100000 in
theorem bAdd0_neg (p n a : Int) (w : World) (ha : I64 a) (h : a < 0) :
    Calls Try.prog 38 #[SG p n, .int .i64 a, .int .i64 0] w fun e w' => e = .returned (SG p (n + absN a * 1)) ∧ Below w.heap.size w w' := by
  have HZ := Lib.hid (fun w => bSize_any a w ha)
  have HO := Lib.hid (fun w => bOne0_any (absN a) w (absN_bd ha).1 (by have := absN_bd ha; omega))
  have HP := Lib.hid (fun w => bPlus_any n (absN a * 1) w)
  obtain ⟨W, hW, hS0, hR0, hb0, hz0⟩ := start12 w p n
  have hS := Lib.hid hS0
  have hR := Lib.hid hR0
  have hb := Lib.hid hb0
  clear hS0 hR0 hb0 ha
  generalize n + absN a * 1 = res at *
  generalize absN a * 1 = t at *
  generalize absN a = z at *
  change (w.alloc (.cells (SGc p n) 91)).alloc (.cells #[.int .u64 0, .int .u64 0, .int .u64 0, .int .u64 0, .int .u64 0, .int .u64 0, .int .u64 0, .int .u64 0, .int .u64 0, .int .u64 0, .int .u64 0, .int .u64 0] 91) = W at hW
  unfold SG SGc at *
  unfold BG at *
  go_enter Try.func38, Try.ntmps38
  go_wp2
  (try rw [hW])
  clear hW
  have k0 := hS.out
  obtain ⟨_, _, _, _, _, _, _, _, _, _, _, _, f0⟩ := k0
  go_region_with (first
    | ((with_reducible refine (HZ.out _).mono ?_); rintro e wa ⟨rfl, rfl⟩)
    | ((with_reducible refine (HO.out _).mono ?_); rintro e w4 ⟨rfl, hb4⟩; have z4 := hb4.size; (try simp at z4); have k4 := hS.out.kept (w' := w4) (by (repeat first | assumption | exact Below.refl _ _ | refine Below.drew ?_ | refine Below.drewN ?_ _ | refine Below.alloc ?_ (by (first | omega | (simp; done) | (simp; omega))) _ | refine Below.setCell ?_ (by (first | omega | (simp; done) | (simp; omega))) _ | refine Below.trans ?_ (Below.mono (by assumption) (by (first | omega | (simp; done) | (simp; omega)))))); obtain ⟨_, _, _, _, _, _, _, _, _, _, _, _, f4⟩ := k4)
    | ((with_reducible refine (HP.out _).mono ?_); rintro e w5 ⟨rfl, hb5⟩; have z5 := hb5.size; (try simp at z5); have k5 := hS.out.kept (w' := w5) (by (repeat first | assumption | exact Below.refl _ _ | refine Below.drew ?_ | refine Below.drewN ?_ _ | refine Below.alloc ?_ (by (first | omega | (simp; done) | (simp; omega))) _ | refine Below.setCell ?_ (by (first | omega | (simp; done) | (simp; omega))) _ | refine Below.trans ?_ (Below.mono (by assumption) (by (first | omega | (simp; done) | (simp; omega)))))); have k5' := k5; obtain ⟨_, _, _, _, _, _, _, _, _, _, _, _, f5⟩ := k5'))
  all_goals
    have hS2 : Hid (SGAt (set6N w5 w.heap.size res) w.heap.size p res) := Lib.hid (k5.setN res)
    have hR2 : Hid (SGAt (set6N w5 w.heap.size res) (w.heap.size + 1) 0 0) := Lib.hid ((hR.out.kept (w' := w5) (by (repeat first | assumption | exact Below.refl _ _ | refine Below.drew ?_ | refine Below.drewN ?_ _ | refine Below.alloc ?_ (by (first | omega | (simp; done) | (simp; omega))) _ | refine Below.setCell ?_ (by (first | omega | (simp; done) | (simp; omega))) _ | refine Below.trans ?_ (Below.mono (by assumption) (by (first | omega | (simp; done) | (simp; omega))))))).far6N (by omega))
    have hb2 : Hid (Below w.heap.size w (set6N w5 w.heap.size res)) := Lib.hid (set6N_below (by have := hb.out; (repeat first | assumption | exact Below.refl _ _ | refine Below.drew ?_ | refine Below.drewN ?_ _ | refine Below.alloc ?_ (by (first | omega | (simp; done) | (simp; omega))) _ | refine Below.setCell ?_ (by (first | omega | (simp; done) | (simp; omega))) _ | refine Below.trans ?_ (Below.mono (by assumption) (by (first | omega | (simp; done) | (simp; omega)))))) (Nat.le_refl _))
    clear k5
    unfold set6N at hS2 hR2 hb2
    generalize hW2 : (((((w5.setCell ⟨w.heap.size, 6, none⟩ (.int .u64 (dg res 0))).setCell ⟨w.heap.size, 7, none⟩ (.int .u64 (dg res 1))).setCell ⟨w.heap.size, 8, none⟩ (.int .u64 (dg res 2))).setCell ⟨w.heap.size, 9, none⟩ (.int .u64 (dg res 3))).setCell ⟨w.heap.size, 10, none⟩ (.int .u64 (dg res 4))).setCell ⟨w.heap.size, 11, none⟩ (.int .u64 (dg res 5)) = W2 at *
    clear hW2 hb4 hb5 z4 z5 f4 f5 hS hR hb
    obtain ⟨c0, c1, c2, c3, c4, c5, c6, c7, c8, c9, c10, c11, f0⟩ := hS2.out
    obtain ⟨_, _, _, _, _, _, _, _, _, _, _, _, f1⟩ := hR2.out
    go_wp2
    have hS3 : Hid (SGAt (set12 W2 (w.heap.size + 1) p res) (w.heap.size + 1) p res) := Lib.hid (hR2.out.set p res)
    have hb3 : Hid (Below w.heap.size w (set12 W2 (w.heap.size + 1) p res)) := Lib.hid (set6N_below (set6_below hb2.out (Nat.le_succ _)) (Nat.le_succ _))
    unfold set12 set6N set6 at hS3 hb3
    clear c0 c1 c2 c3 c4 c5 c6 c7 c8 c9 c10 c11 f0 f1
    obtain ⟨c0, c1, c2, c3, c4, c5, c6, c7, c8, c9, c10, c11, f9⟩ := hS3.out
    exact bodyPost_ret (v := .agg #[.int .u64 (dg p 0), .int .u64 (dg p 1), .int .u64 (dg p 2), .int .u64 (dg p 3), .int .u64 (dg p 4), .int .u64 (dg p 5), .int .u64 (dg res 0), .int .u64 (dg res 1), .int .u64 (dg res 2), .int .u64 (dg res 3), .int .u64 (dg res 4), .int .u64 (dg res 5)]) (by simp [results, Try.results38, go_sem, c0, c1, c2, c3, c4, c5, c6, c7, c8, c9, c10, c11]) rfl ⟨rfl, hb3.out⟩

set_option maxHeartbeats 3200000 in
set_option maxRecDepth 100000 in
theorem bAdd0_pos (p n a : Int) (w : World) (ha : I64 a) (h : ¬ a < 0) :
    Calls Try.prog 38 #[SG p n, .int .i64 a, .int .i64 0] w fun e w' => e = .returned (SG (p + absN a * 1) n) ∧ Below w.heap.size w w' := by
  have HZ := Lib.hid (fun w => bSize_any a w ha)
  have HO := Lib.hid (fun w => bOne0_any (absN a) w (absN_bd ha).1 (by have := absN_bd ha; omega))
  have HP := Lib.hid (fun w => bPlus_any p (absN a * 1) w)
  obtain ⟨W, hW, hS0, hR0, hb0, hz0⟩ := start12 w p n
  have hS := Lib.hid hS0
  have hR := Lib.hid hR0
  have hb := Lib.hid hb0
  clear hS0 hR0 hb0 ha
  generalize p + absN a * 1 = res at *
  generalize absN a * 1 = t at *
  generalize absN a = z at *
  change (w.alloc (.cells (SGc p n) 91)).alloc (.cells #[.int .u64 0, .int .u64 0, .int .u64 0, .int .u64 0, .int .u64 0, .int .u64 0, .int .u64 0, .int .u64 0, .int .u64 0, .int .u64 0, .int .u64 0, .int .u64 0] 91) = W at hW
  unfold SG SGc at *
  unfold BG at *
  go_enter Try.func38, Try.ntmps38
  go_wp2
  (try rw [hW])
  clear hW
  have k0 := hS.out
  obtain ⟨_, _, _, _, _, _, _, _, _, _, _, _, f0⟩ := k0
  go_region_with (first
    | ((with_reducible refine (HZ.out _).mono ?_); rintro e wa ⟨rfl, rfl⟩)
    | ((with_reducible refine (HO.out _).mono ?_); rintro e w4 ⟨rfl, hb4⟩; have z4 := hb4.size; (try simp at z4); have k4 := hS.out.kept (w' := w4) (by (repeat first | assumption | exact Below.refl _ _ | refine Below.drew ?_ | refine Below.drewN ?_ _ | refine Below.alloc ?_ (by (first | omega | (simp; done) | (simp; omega))) _ | refine Below.setCell ?_ (by (first | omega | (simp; done) | (simp; omega))) _ | refine Below.trans ?_ (Below.mono (by assumption) (by (first | omega | (simp; done) | (simp; omega)))))); obtain ⟨_, _, _, _, _, _, _, _, _, _, _, _, f4⟩ := k4)
    | ((with_reducible refine (HP.out _).mono ?_); rintro e w5 ⟨rfl, hb5⟩; have z5 := hb5.size; (try simp at z5); have k5 := hS.out.kept (w' := w5) (by (repeat first | assumption | exact Below.refl _ _ | refine Below.drew ?_ | refine Below.drewN ?_ _ | refine Below.alloc ?_ (by (first | omega | (simp; done) | (simp; omega))) _ | refine Below.setCell ?_ (by (first | omega | (simp; done) | (simp; omega))) _ | refine Below.trans ?_ (Below.mono (by assumption) (by (first | omega | (simp; done) | (simp; omega)))))); have k5' := k5; obtain ⟨_, _, _, _, _, _, _, _, _, _, _, _, f5⟩ := k5'))
  all_goals
    have hS2 : Hid (SGAt (set6 w5 w.heap.size res) w.heap.size res n) := Lib.hid (k5.setP res)
    have hR2 : Hid (SGAt (set6 w5 w.heap.size res) (w.heap.size + 1) 0 0) := Lib.hid ((hR.out.kept (w' := w5) (by (repeat first | assumption | exact Below.refl _ _ | refine Below.drew ?_ | refine Below.drewN ?_ _ | refine Below.alloc ?_ (by (first | omega | (simp; done) | (simp; omega))) _ | refine Below.setCell ?_ (by (first | omega | (simp; done) | (simp; omega))) _ | refine Below.trans ?_ (Below.mono (by assumption) (by (first | omega | (simp; done) | (simp; omega))))))).far6 (by omega))
    have hb2 : Hid (Below w.heap.size w (set6 w5 w.heap.size res)) := Lib.hid (set6_below (by have := hb.out; (repeat first | assumption | exact Below.refl _ _ | refine Below.drew ?_ | refine Below.drewN ?_ _ | refine Below.alloc ?_ (by (first | omega | (simp; done) | (simp; omega))) _ | refine Below.setCell ?_ (by (first | omega | (simp; done) | (simp; omega))) _ | refine Below.trans ?_ (Below.mono (by assumption) (by (first | omega | (simp; done) | (simp; omega)))))) (Nat.le_refl _))
    clear k5
    unfold set6 at hS2 hR2 hb2
    generalize hW2 : (((((w5.setCell ⟨w.heap.size, 0, none⟩ (.int .u64 (dg res 0))).setCell ⟨w.heap.size, 1, none⟩ (.int .u64 (dg res 1))).setCell ⟨w.heap.size, 2, none⟩ (.int .u64 (dg res 2))).setCell ⟨w.heap.size, 3, none⟩ (.int .u64 (dg res 3))).setCell ⟨w.heap.size, 4, none⟩ (.int .u64 (dg res 4))).setCell ⟨w.heap.size, 5, none⟩ (.int .u64 (dg res 5)) = W2 at *
    clear hW2 hb4 hb5 z4 z5 f4 f5 hS hR hb
    obtain ⟨c0, c1, c2, c3, c4, c5, c6, c7, c8, c9, c10, c11, f0⟩ := hS2.out
    obtain ⟨_, _, _, _, _, _, _, _, _, _, _, _, f1⟩ := hR2.out
    go_wp2
    have hS3 : Hid (SGAt (set12 W2 (w.heap.size + 1) res n) (w.heap.size + 1) res n) := Lib.hid (hR2.out.set res n)
    have hb3 : Hid (Below w.heap.size w (set12 W2 (w.heap.size + 1) res n)) := Lib.hid (set6N_below (set6_below hb2.out (Nat.le_succ _)) (Nat.le_succ _))
    unfold set12 set6N set6 at hS3 hb3
    clear c0 c1 c2 c3 c4 c5 c6 c7 c8 c9 c10 c11 f0 f1
    obtain ⟨c0, c1, c2, c3, c4, c5, c6, c7, c8, c9, c10, c11, f9⟩ := hS3.out
    exact bodyPost_ret (v := .agg #[.int .u64 (dg res 0), .int .u64 (dg res 1), .int .u64 (dg res 2), .int .u64 (dg res 3), .int .u64 (dg res 4), .int .u64 (dg res 5), .int .u64 (dg n 0), .int .u64 (dg n 1), .int .u64 (dg n 2), .int .u64 (dg n 3), .int .u64 (dg n 4), .int .u64 (dg n 5)]) (by simp [results, Try.results38, go_sem, c0, c1, c2, c3, c4, c5, c6, c7, c8, c9, c10, c11]) rfl ⟨rfl, hb3.out⟩

set_option maxHeartbeats 3200000 in
set_option maxRecDepth 100000 in
theorem bAdd1_neg (p n a : Int) (w : World) (ha : I64 a) (h : a < 0) :
    Calls Try.prog 38 #[SG p n, .int .i64 a, .int .i64 1] w fun e w' => e = .returned (SG p (n + absN a * 4294967296)) ∧ Below w.heap.size w w' := by
  have HZ := Lib.hid (fun w => bSize_any a w ha)
  have HO := Lib.hid (fun w => bOne1_any (absN a) w (absN_bd ha).1 (by have := absN_bd ha; omega))
  have HP := Lib.hid (fun w => bPlus_any n (absN a * 4294967296) w)
  obtain ⟨W, hW, hS0, hR0, hb0, hz0⟩ := start12 w p n
  have hS := Lib.hid hS0
  have hR := Lib.hid hR0
  have hb := Lib.hid hb0
  clear hS0 hR0 hb0 ha
  generalize n + absN a * 4294967296 = res at *
  generalize absN a * 4294967296 = t at *
  generalize absN a = z at *
  change (w.alloc (.cells (SGc p n) 91)).alloc (.cells #[.int .u64 0, .int .u64 0, .int .u64 0, .int .u64 0, .int .u64 0, .int .u64 0, .int .u64 0, .int .u64 0, .int .u64 0, .int .u64 0, .int .u64 0, .int .u64 0] 91) = W at hW
  unfold SG SGc at *
  unfold BG at *
  go_enter Try.func38, Try.ntmps38
  go_wp2
  (try rw [hW])
  clear hW
  have k0 := hS.out
  obtain ⟨_, _, _, _, _, _, _, _, _, _, _, _, f0⟩ := k0
  go_region_with (first
    | ((with_reducible refine (HZ.out _).mono ?_); rintro e wa ⟨rfl, rfl⟩)
    | ((with_reducible refine (HO.out _).mono ?_); rintro e w4 ⟨rfl, hb4⟩; have z4 := hb4.size; (try simp at z4); have k4 := hS.out.kept (w' := w4) (by (repeat first | assumption | exact Below.refl _ _ | refine Below.drew ?_ | refine Below.drewN ?_ _ | refine Below.alloc ?_ (by (first | omega | (simp; done) | (simp; omega))) _ | refine Below.setCell ?_ (by (first | omega | (simp; done) | (simp; omega))) _ | refine Below.trans ?_ (Below.mono (by assumption) (by (first | omega | (simp; done) | (simp; omega)))))); obtain ⟨_, _, _, _, _, _, _, _, _, _, _, _, f4⟩ := k4)
    | ((with_reducible refine (HP.out _).mono ?_); rintro e w5 ⟨rfl, hb5⟩; have z5 := hb5.size; (try simp at z5); have k5 := hS.out.kept (w' := w5) (by (repeat first | assumption | exact Below.refl _ _ | refine Below.drew ?_ | refine Below.drewN ?_ _ | refine Below.alloc ?_ (by (first | omega | (simp; done) | (simp; omega))) _ | refine Below.setCell ?_ (by (first | omega | (simp; done) | (simp; omega))) _ | refine Below.trans ?_ (Below.mono (by assumption) (by (first | omega | (simp; done) | (simp; omega)))))); have k5' := k5; obtain ⟨_, _, _, _, _, _, _, _, _, _, _, _, f5⟩ := k5'))
  all_goals
    have hS2 : Hid (SGAt (set6N w5 w.heap.size res) w.heap.size p res) := Lib.hid (k5.setN res)
    have hR2 : Hid (SGAt (set6N w5 w.heap.size res) (w.heap.size + 1) 0 0) := Lib.hid ((hR.out.kept (w' := w5) (by (repeat first | assumption | exact Below.refl _ _ | refine Below.drew ?_ | refine Below.drewN ?_ _ | refine Below.alloc ?_ (by (first | omega | (simp; done) | (simp; omega))) _ | refine Below.setCell ?_ (by (first | omega | (simp; done) | (simp; omega))) _ | refine Below.trans ?_ (Below.mono (by assumption) (by (first | omega | (simp; done) | (simp; omega))))))).far6N (by omega))
    have hb2 : Hid (Below w.heap.size w (set6N w5 w.heap.size res)) := Lib.hid (set6N_below (by have := hb.out; (repeat first | assumption | exact Below.refl _ _ | refine Below.drew ?_ | refine Below.drewN ?_ _ | refine Below.alloc ?_ (by (first | omega | (simp; done) | (simp; omega))) _ | refine Below.setCell ?_ (by (first | omega | (simp; done) | (simp; omega))) _ | refine Below.trans ?_ (Below.mono (by assumption) (by (first | omega | (simp; done) | (simp; omega)))))) (Nat.le_refl _))
    clear k5
    unfold set6N at hS2 hR2 hb2
    generalize hW2 : (((((w5.setCell ⟨w.heap.size, 6, none⟩ (.int .u64 (dg res 0))).setCell ⟨w.heap.size, 7, none⟩ (.int .u64 (dg res 1))).setCell ⟨w.heap.size, 8, none⟩ (.int .u64 (dg res 2))).setCell ⟨w.heap.size, 9, none⟩ (.int .u64 (dg res 3))).setCell ⟨w.heap.size, 10, none⟩ (.int .u64 (dg res 4))).setCell ⟨w.heap.size, 11, none⟩ (.int .u64 (dg res 5)) = W2 at *
    clear hW2 hb4 hb5 z4 z5 f4 f5 hS hR hb
    obtain ⟨c0, c1, c2, c3, c4, c5, c6, c7, c8, c9, c10, c11, f0⟩ := hS2.out
    obtain ⟨_, _, _, _, _, _, _, _, _, _, _, _, f1⟩ := hR2.out
    go_wp2
    have hS3 : Hid (SGAt (set12 W2 (w.heap.size + 1) p res) (w.heap.size + 1) p res) := Lib.hid (hR2.out.set p res)
    have hb3 : Hid (Below w.heap.size w (set12 W2 (w.heap.size + 1) p res)) := Lib.hid (set6N_below (set6_below hb2.out (Nat.le_succ _)) (Nat.le_succ _))
    unfold set12 set6N set6 at hS3 hb3
    clear c0 c1 c2 c3 c4 c5 c6 c7 c8 c9 c10 c11 f0 f1
    obtain ⟨c0, c1, c2, c3, c4, c5, c6, c7, c8, c9, c10, c11, f9⟩ := hS3.out
    exact bodyPost_ret (v := .agg #[.int .u64 (dg p 0), .int .u64 (dg p 1), .int .u64 (dg p 2), .int .u64 (dg p 3), .int .u64 (dg p 4), .int .u64 (dg p 5), .int .u64 (dg res 0), .int .u64 (dg res 1), .int .u64 (dg res 2), .int .u64 (dg res 3), .int .u64 (dg res 4), .int .u64 (dg res 5)]) (by simp [results, Try.results38, go_sem, c0, c1, c2, c3, c4, c5, c6, c7, c8, c9, c10, c11]) rfl ⟨rfl, hb3.out⟩

set_option maxHeartbeats 3200000 in
set_option maxRecDepth 100000 in
theorem bAdd1_pos (p n a : Int) (w : World) (ha : I64 a) (h : ¬ a < 0) :
    Calls Try.prog 38 #[SG p n, .int .i64 a, .int .i64 1] w fun e w' => e = .returned (SG (p + absN a * 4294967296) n) ∧ Below w.heap.size w w' := by
  have HZ := Lib.hid (fun w => bSize_any a w ha)
  have HO := Lib.hid (fun w => bOne1_any (absN a) w (absN_bd ha).1 (by have := absN_bd ha; omega))
  have HP := Lib.hid (fun w => bPlus_any p (absN a * 4294967296) w)
  obtain ⟨W, hW, hS0, hR0, hb0, hz0⟩ := start12 w p n
  have hS := Lib.hid hS0
  have hR := Lib.hid hR0
  have hb := Lib.hid hb0
  clear hS0 hR0 hb0 ha
  generalize p + absN a * 4294967296 = res at *
  generalize absN a * 4294967296 = t at *
  generalize absN a = z at *
  change (w.alloc (.cells (SGc p n) 91)).alloc (.cells #[.int .u64 0, .int .u64 0, .int .u64 0, .int .u64 0, .int .u64 0, .int .u64 0, .int .u64 0, .int .u64 0, .int .u64 0, .int .u64 0, .int .u64 0, .int .u64 0] 91) = W at hW
  unfold SG SGc at *
  unfold BG at *
  go_enter Try.func38, Try.ntmps38
  go_wp2
  (try rw [hW])
  clear hW
  have k0 := hS.out
  obtain ⟨_, _, _, _, _, _, _, _, _, _, _, _, f0⟩ := k0
  go_region_with (first
    | ((with_reducible refine (HZ.out _).mono ?_); rintro e wa ⟨rfl, rfl⟩)
    | ((with_reducible refine (HO.out _).mono ?_); rintro e w4 ⟨rfl, hb4⟩; have z4 := hb4.size; (try simp at z4); have k4 := hS.out.kept (w' := w4) (by (repeat first | assumption | exact Below.refl _ _ | refine Below.drew ?_ | refine Below.drewN ?_ _ | refine Below.alloc ?_ (by (first | omega | (simp; done) | (simp; omega))) _ | refine Below.setCell ?_ (by (first | omega | (simp; done) | (simp; omega))) _ | refine Below.trans ?_ (Below.mono (by assumption) (by (first | omega | (simp; done) | (simp; omega)))))); obtain ⟨_, _, _, _, _, _, _, _, _, _, _, _, f4⟩ := k4)
    | ((with_reducible refine (HP.out _).mono ?_); rintro e w5 ⟨rfl, hb5⟩; have z5 := hb5.size; (try simp at z5); have k5 := hS.out.kept (w' := w5) (by (repeat first | assumption | exact Below.refl _ _ | refine Below.drew ?_ | refine Below.drewN ?_ _ | refine Below.alloc ?_ (by (first | omega | (simp; done) | (simp; omega))) _ | refine Below.setCell ?_ (by (first | omega | (simp; done) | (simp; omega))) _ | refine Below.trans ?_ (Below.mono (by assumption) (by (first | omega | (simp; done) | (simp; omega)))))); have k5' := k5; obtain ⟨_, _, _, _, _, _, _, _, _, _, _, _, f5⟩ := k5'))
  all_goals
    have hS2 : Hid (SGAt (set6 w5 w.heap.size res) w.heap.size res n) := Lib.hid (k5.setP res)
    have hR2 : Hid (SGAt (set6 w5 w.heap.size res) (w.heap.size + 1) 0 0) := Lib.hid ((hR.out.kept (w' := w5) (by (repeat first | assumption | exact Below.refl _ _ | refine Below.drew ?_ | refine Below.drewN ?_ _ | refine Below.alloc ?_ (by (first | omega | (simp; done) | (simp; omega))) _ | refine Below.setCell ?_ (by (first | omega | (simp; done) | (simp; omega))) _ | refine Below.trans ?_ (Below.mono (by assumption) (by (first | omega | (simp; done) | (simp; omega))))))).far6 (by omega))
    have hb2 : Hid (Below w.heap.size w (set6 w5 w.heap.size res)) := Lib.hid (set6_below (by have := hb.out; (repeat first | assumption | exact Below.refl _ _ | refine Below.drew ?_ | refine Below.drewN ?_ _ | refine Below.alloc ?_ (by (first | omega | (simp; done) | (simp; omega))) _ | refine Below.setCell ?_ (by (first | omega | (simp; done) | (simp; omega))) _ | refine Below.trans ?_ (Below.mono (by assumption) (by (first | omega | (simp; done) | (simp; omega)))))) (Nat.le_refl _))
    clear k5
    unfold set6 at hS2 hR2 hb2
    generalize hW2 : (((((w5.setCell ⟨w.heap.size, 0, none⟩ (.int .u64 (dg res 0))).setCell ⟨w.heap.size, 1, none⟩ (.int .u64 (dg res 1))).setCell ⟨w.heap.size, 2, none⟩ (.int .u64 (dg res 2))).setCell ⟨w.heap.size, 3, none⟩ (.int .u64 (dg res 3))).setCell ⟨w.heap.size, 4, none⟩ (.int .u64 (dg res 4))).setCell ⟨w.heap.size, 5, none⟩ (.int .u64 (dg res 5)) = W2 at *
    clear hW2 hb4 hb5 z4 z5 f4 f5 hS hR hb
    obtain ⟨c0, c1, c2, c3, c4, c5, c6, c7, c8, c9, c10, c11, f0⟩ := hS2.out
    obtain ⟨_, _, _, _, _, _, _, _, _, _, _, _, f1⟩ := hR2.out
    go_wp2
    have hS3 : Hid (SGAt (set12 W2 (w.heap.size + 1) res n) (w.heap.size + 1) res n) := Lib.hid (hR2.out.set res n)
    have hb3 : Hid (Below w.heap.size w (set12 W2 (w.heap.size + 1) res n)) := Lib.hid (set6N_below (set6_below hb2.out (Nat.le_succ _)) (Nat.le_succ _))
    unfold set12 set6N set6 at hS3 hb3
    clear c0 c1 c2 c3 c4 c5 c6 c7 c8 c9 c10 c11 f0 f1
    obtain ⟨c0, c1, c2, c3, c4, c5, c6, c7, c8, c9, c10, c11, f9⟩ := hS3.out
    exact bodyPost_ret (v := .agg #[.int .u64 (dg res 0), .int .u64 (dg res 1), .int .u64 (dg res 2), .int .u64 (dg res 3), .int .u64 (dg res 4), .int .u64 (dg res 5), .int .u64 (dg n 0), .int .u64 (dg n 1), .int .u64 (dg n 2), .int .u64 (dg n 3), .int .u64 (dg n 4), .int .u64 (dg n 5)]) (by simp [results, Try.results38, go_sem, c0, c1, c2, c3, c4, c5, c6, c7, c8, c9, c10, c11]) rfl ⟨rfl, hb3.out⟩

end Go.Proofs.Ythingodgjeicpaa
