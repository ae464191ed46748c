/-
  regattaref02: a number more in a sum, a product more.
-/
import Derived.Test.YtdamenbpgkhiiaaRefF
namespace Go.Proofs.Ytdamenbpgkhiiaa
open Go.RowKit
set_option linter.unusedVariables false
set_option linter.unusedSimpArgs false


set_option maxHeartbeats 3200000 in
set_option maxRecDepth 100000 in
theorem bMulS_np (p n a b : Int) (w : World) (ha : I64 a) (hb : I64 b) (h1 : a < 0) (h2 : ¬ b < 0) :
    Calls Try.prog 70 #[SG p n, .int .i64 a, .int .i64 b] w fun e w' => e = .returned (SG p (n + absN a * absN b)) ∧ Below w.heap.size w w' := by
  have HZa := Lib.hid (fun w => bSize_any a w ha)
  have HZb := Lib.hid (fun w => bSize_any b w hb)
  have HO := Lib.hid (fun w => bProd_any (absN a) (absN b) w (absN_bd ha).1 (absN_bd ha).2 (absN_bd hb).1 (absN_bd hb).2)
  have HP := Lib.hid (fun w => bPlus_any n (absN a * absN b) w)
  obtain ⟨W, hW, hS0, hR0, hb0, hz0⟩ := start12 w p n
  have hS := Lib.hid hS0
  have hR := Lib.hid hR0
  have hbb := Lib.hid hb0
  have d1 : decide (a < 0) = true := by simpa using h1
  have d2 : decide (b < 0) = false := by simpa using h2
  clear hS0 hR0 hb0 ha hb h1 h2
  generalize n + absN a * absN b = res at *
  generalize absN a * absN b = t at *
  generalize absN a = za at *
  generalize absN b = zb at *
  change (w.alloc (.cells (SGc p n) 147)).alloc (.cells #[.int .u64 0, .int .u64 0, .int .u64 0, .int .u64 0, .int .u64 0, .int .u64 0, .int .u64 0, .int .u64 0, .int .u64 0, .int .u64 0, .int .u64 0, .int .u64 0] 147) = W at hW
  unfold SG SGc at *
  unfold BG at *
  go_enter Try.func70, Try.ntmps70
  go_wp2_with first
    | ((with_reducible refine (HZa.out _).mono ?_); rintro e wa ⟨rfl, rfl⟩)
    | ((with_reducible refine (HZb.out _).mono ?_); rintro e wa ⟨rfl, rfl⟩)
    | fail
  (try rw [hW])
  (with_reducible refine (HO.out _).mono ?_)
  rintro e w4 ⟨rfl, hb4⟩
  have z4 := hb4.size
  have hS4 : Hid (SGAt (w4.alloc (.cells (BGc t) 145)) w.heap.size p n) := Lib.hid (hS.out.kept (w' := w4.alloc (.cells (BGc t) 145)) (by (repeat first | assumption | exact Below.refl _ _ | refine Below.drew ?_ | refine Below.drewN ?_ _ | refine Below.alloc ?_ (by (first | omega | (simp; done) | (simp; omega))) _ | refine Below.setCell ?_ (by (first | omega | (simp; done) | (simp; omega))) _ | refine Below.trans ?_ (Below.mono (by assumption) (by (first | omega | (simp; done) | (simp; omega)))))))
  have hR4 : Hid (SGAt (w4.alloc (.cells (BGc t) 145)) (w.heap.size + 1) 0 0) := Lib.hid (hR.out.kept (w' := w4.alloc (.cells (BGc t) 145)) (by (repeat first | assumption | exact Below.refl _ _ | refine Below.drew ?_ | refine Below.drewN ?_ _ | refine Below.alloc ?_ (by (first | omega | (simp; done) | (simp; omega))) _ | refine Below.setCell ?_ (by (first | omega | (simp; done) | (simp; omega))) _ | refine Below.trans ?_ (Below.mono (by assumption) (by (first | omega | (simp; done) | (simp; omega)))))))
  have hB4 : Hid (BGAt (w4.alloc (.cells (BGc t) 145)) w4.heap.size t) := Lib.hid (BGAt.alloc _ _)
  have hb : Hid (Below w.heap.size w (w4.alloc (.cells (BGc t) 145))) := Lib.hid (by have := hbb.out; (repeat first | assumption | exact Below.refl _ _ | refine Below.drew ?_ | refine Below.drewN ?_ _ | refine Below.alloc ?_ (by (first | omega | (simp; done) | (simp; omega))) _ | refine Below.setCell ?_ (by (first | omega | (simp; done) | (simp; omega))) _ | refine Below.trans ?_ (Below.mono (by assumption) (by (first | omega | (simp; done) | (simp; omega))))))
  have z6 : w.heap.size + 2 ≤ (w4.alloc (.cells (BGc t) 145)).heap.size := by simp; omega
  generalize hW4 : w4.alloc (.cells (BGc t) 145) = W4 at *
  change w4.alloc (.cells #[.int .u64 (dg t 0), .int .u64 (dg t 1), .int .u64 (dg t 2), .int .u64 (dg t 3), .int .u64 (dg t 4), .int .u64 (dg t 5)] 145) = W4 at hW4
  clear hS hR hbb hb4
  have k4 := hB4.out
  obtain ⟨b0, b1, b2, b3, b4, b5, bf⟩ := k4
  obtain ⟨c0, c1, c2, c3, c4, c5, c6, c7, c8, c9, c10, c11, f0⟩ := hS4.out
  go_wp2_with fail
  (with_reducible refine (HP.out _).mono ?_)
  rintro e w5 ⟨rfl, hb5⟩
  have z5 := hb5.size
  have hR := Lib.hid (hR4.out)
  have k5 := hS4.out.kept hb5
  have k5' := k5
  have r5 := hR4.out.kept hb5
  clear b0 b1 b2 b3 b4 b5 bf c0 c1 c2 c3 c4 c5 c6 c7 c8 c9 c10 c11 f0
  have hS3 : Hid (SGAt (set12 (set6N w5 w.heap.size res) (w.heap.size + 1) p res) (w.heap.size + 1) p res) := Lib.hid ((r5.far6N (by omega)).set p res)
  have hb3 : Hid (Below w.heap.size w (set12 (set6N w5 w.heap.size res) (w.heap.size + 1) p res)) := Lib.hid (set6N_below (set6_below (set6N_below (by have := hb.out; (repeat first | assumption | exact Below.refl _ _ | refine Below.drew ?_ | refine Below.drewN ?_ _ | refine Below.alloc ?_ (by (first | omega | (simp; done) | (simp; omega))) _ | refine Below.setCell ?_ (by (first | omega | (simp; done) | (simp; omega))) _ | refine Below.trans ?_ (Below.mono (by assumption) (by (first | omega | (simp; done) | (simp; omega)))))) (Nat.le_refl _)) (Nat.le_succ _)) (Nat.le_succ _))
  unfold set12 at hS3 hb3
  unfold set6N set6 at hS3 hb3
  clear hb hb5 z5 z6 hz0 hW hW4 hS4 hR4 hB4 hR k5 z4
  obtain ⟨_, _, _, _, _, _, _, _, _, _, _, _, f5⟩ := k5'
  obtain ⟨_, _, _, _, _, _, _, _, _, _, _, _, f6⟩ := r5
  go_wp2
  obtain ⟨c0, c1, c2, c3, c4, c5, c6, c7, c8, c9, c10, c11, f9⟩ := hS3.out
  exact bodyPost_ret (v := .agg #[.int .u64 (dg p 0), .int .u64 (dg p 1), .int .u64 (dg p 2), .int .u64 (dg p 3), .int .u64 (dg p 4), .int .u64 (dg p 5), .int .u64 (dg res 0), .int .u64 (dg res 1), .int .u64 (dg res 2), .int .u64 (dg res 3), .int .u64 (dg res 4), .int .u64 (dg res 5)]) (by simp [results, Try.results70, go_sem, c0, c1, c2, c3, c4, c5, c6, c7, c8, c9, c10, c11]) rfl ⟨rfl, hb3.out⟩

set_option maxHeartbeats 3200000 in
set_option maxRecDepth 100000 in
theorem bMulS_pn (p n a b : Int) (w : World) (ha : I64 a) (hb : I64 b) (h1 : ¬ a < 0) (h2 : b < 0) :
    Calls Try.prog 70 #[SG p n, .int .i64 a, .int .i64 b] w fun e w' => e = .returned (SG p (n + absN a * absN b)) ∧ Below w.heap.size w w' := by
  have HZa := Lib.hid (fun w => bSize_any a w ha)
  have HZb := Lib.hid (fun w => bSize_any b w hb)
  have HO := Lib.hid (fun w => bProd_any (absN a) (absN b) w (absN_bd ha).1 (absN_bd ha).2 (absN_bd hb).1 (absN_bd hb).2)
  have HP := Lib.hid (fun w => bPlus_any n (absN a * absN b) w)
  obtain ⟨W, hW, hS0, hR0, hb0, hz0⟩ := start12 w p n
  have hS := Lib.hid hS0
  have hR := Lib.hid hR0
  have hbb := Lib.hid hb0
  have d1 : decide (a < 0) = false := by simpa using h1
  have d2 : decide (b < 0) = true := by simpa using h2
  clear hS0 hR0 hb0 ha hb h1 h2
  generalize n + absN a * absN b = res at *
  generalize absN a * absN b = t at *
  generalize absN a = za at *
  generalize absN b = zb at *
  change (w.alloc (.cells (SGc p n) 147)).alloc (.cells #[.int .u64 0, .int .u64 0, .int .u64 0, .int .u64 0, .int .u64 0, .int .u64 0, .int .u64 0, .int .u64 0, .int .u64 0, .int .u64 0, .int .u64 0, .int .u64 0] 147) = W at hW
  unfold SG SGc at *
  unfold BG at *
  go_enter Try.func70, Try.ntmps70
  go_wp2_with first
    | ((with_reducible refine (HZa.out _).mono ?_); rintro e wa ⟨rfl, rfl⟩)
    | ((with_reducible refine (HZb.out _).mono ?_); rintro e wa ⟨rfl, rfl⟩)
    | fail
  (try rw [hW])
  (with_reducible refine (HO.out _).mono ?_)
  rintro e w4 ⟨rfl, hb4⟩
  have z4 := hb4.size
  have hS4 : Hid (SGAt (w4.alloc (.cells (BGc t) 145)) w.heap.size p n) := Lib.hid (hS.out.kept (w' := w4.alloc (.cells (BGc t) 145)) (by (repeat first | assumption | exact Below.refl _ _ | refine Below.drew ?_ | refine Below.drewN ?_ _ | refine Below.alloc ?_ (by (first | omega | (simp; done) | (simp; omega))) _ | refine Below.setCell ?_ (by (first | omega | (simp; done) | (simp; omega))) _ | refine Below.trans ?_ (Below.mono (by assumption) (by (first | omega | (simp; done) | (simp; omega)))))))
  have hR4 : Hid (SGAt (w4.alloc (.cells (BGc t) 145)) (w.heap.size + 1) 0 0) := Lib.hid (hR.out.kept (w' := w4.alloc (.cells (BGc t) 145)) (by (repeat first | assumption | exact Below.refl _ _ | refine Below.drew ?_ | refine Below.drewN ?_ _ | refine Below.alloc ?_ (by (first | omega | (simp; done) | (simp; omega))) _ | refine Below.setCell ?_ (by (first | omega | (simp; done) | (simp; omega))) _ | refine Below.trans ?_ (Below.mono (by assumption) (by (first | omega | (simp; done) | (simp; omega)))))))
  have hB4 : Hid (BGAt (w4.alloc (.cells (BGc t) 145)) w4.heap.size t) := Lib.hid (BGAt.alloc _ _)
  have hb : Hid (Below w.heap.size w (w4.alloc (.cells (BGc t) 145))) := Lib.hid (by have := hbb.out; (repeat first | assumption | exact Below.refl _ _ | refine Below.drew ?_ | refine Below.drewN ?_ _ | refine Below.alloc ?_ (by (first | omega | (simp; done) | (simp; omega))) _ | refine Below.setCell ?_ (by (first | omega | (simp; done) | (simp; omega))) _ | refine Below.trans ?_ (Below.mono (by assumption) (by (first | omega | (simp; done) | (simp; omega))))))
  have z6 : w.heap.size + 2 ≤ (w4.alloc (.cells (BGc t) 145)).heap.size := by simp; omega
  generalize hW4 : w4.alloc (.cells (BGc t) 145) = W4 at *
  change w4.alloc (.cells #[.int .u64 (dg t 0), .int .u64 (dg t 1), .int .u64 (dg t 2), .int .u64 (dg t 3), .int .u64 (dg t 4), .int .u64 (dg t 5)] 145) = W4 at hW4
  clear hS hR hbb hb4
  have k4 := hB4.out
  obtain ⟨b0, b1, b2, b3, b4, b5, bf⟩ := k4
  obtain ⟨c0, c1, c2, c3, c4, c5, c6, c7, c8, c9, c10, c11, f0⟩ := hS4.out
  go_wp2_with fail
  (with_reducible refine (HP.out _).mono ?_)
  rintro e w5 ⟨rfl, hb5⟩
  have z5 := hb5.size
  have hR := Lib.hid (hR4.out)
  have k5 := hS4.out.kept hb5
  have k5' := k5
  have r5 := hR4.out.kept hb5
  clear b0 b1 b2 b3 b4 b5 bf c0 c1 c2 c3 c4 c5 c6 c7 c8 c9 c10 c11 f0
  have hS3 : Hid (SGAt (set12 (set6N w5 w.heap.size res) (w.heap.size + 1) p res) (w.heap.size + 1) p res) := Lib.hid ((r5.far6N (by omega)).set p res)
  have hb3 : Hid (Below w.heap.size w (set12 (set6N w5 w.heap.size res) (w.heap.size + 1) p res)) := Lib.hid (set6N_below (set6_below (set6N_below (by have := hb.out; (repeat first | assumption | exact Below.refl _ _ | refine Below.drew ?_ | refine Below.drewN ?_ _ | refine Below.alloc ?_ (by (first | omega | (simp; done) | (simp; omega))) _ | refine Below.setCell ?_ (by (first | omega | (simp; done) | (simp; omega))) _ | refine Below.trans ?_ (Below.mono (by assumption) (by (first | omega | (simp; done) | (simp; omega)))))) (Nat.le_refl _)) (Nat.le_succ _)) (Nat.le_succ _))
  unfold set12 at hS3 hb3
  unfold set6N set6 at hS3 hb3
  clear hb hb5 z5 z6 hz0 hW hW4 hS4 hR4 hB4 hR k5 z4
  obtain ⟨_, _, _, _, _, _, _, _, _, _, _, _, f5⟩ := k5'
  obtain ⟨_, _, _, _, _, _, _, _, _, _, _, _, f6⟩ := r5
  go_wp2
  obtain ⟨c0, c1, c2, c3, c4, c5, c6, c7, c8, c9, c10, c11, f9⟩ := hS3.out
  exact bodyPost_ret (v := .agg #[.int .u64 (dg p 0), .int .u64 (dg p 1), .int .u64 (dg p 2), .int .u64 (dg p 3), .int .u64 (dg p 4), .int .u64 (dg p 5), .int .u64 (dg res 0), .int .u64 (dg res 1), .int .u64 (dg res 2), .int .u64 (dg res 3), .int .u64 (dg res 4), .int .u64 (dg res 5)]) (by simp [results, Try.results70, go_sem, c0, c1, c2, c3, c4, c5, c6, c7, c8, c9, c10, c11]) rfl ⟨rfl, hb3.out⟩

set_option maxHeartbeats 3200000 in
set_option maxRecDepth 100000 in
theorem bMulS_nn (p n a b : Int) (w : World) (ha : I64 a) (hb : I64 b) (h1 : a < 0) (h2 : b < 0) :
    Calls Try.prog 70 #[SG p n, .int .i64 a, .int .i64 b] w fun e w' => e = .returned (SG (p + absN a * absN b) n) ∧ Below w.heap.size w w' := by
  have HZa := Lib.hid (fun w => bSize_any a w ha)
  have HZb := Lib.hid (fun w => bSize_any b w hb)
  have HO := Lib.hid (fun w => bProd_any (absN a) (absN b) w (absN_bd ha).1 (absN_bd ha).2 (absN_bd hb).1 (absN_bd hb).2)
  have HP := Lib.hid (fun w => bPlus_any p (absN a * absN b) w)
  obtain ⟨W, hW, hS0, hR0, hb0, hz0⟩ := start12 w p n
  have hS := Lib.hid hS0
  have hR := Lib.hid hR0
  have hbb := Lib.hid hb0
  have d1 : decide (a < 0) = true := by simpa using h1
  have d2 : decide (b < 0) = true := by simpa using h2
  clear hS0 hR0 hb0 ha hb h1 h2
  generalize p + absN a * absN b = res at *
  generalize absN a * absN b = t at *
  generalize absN a = za at *
  generalize absN b = zb at *
  change (w.alloc (.cells (SGc p n) 147)).alloc (.cells #[.int .u64 0, .int .u64 0, .int .u64 0, .int .u64 0, .int .u64 0, .int .u64 0, .int .u64 0, .int .u64 0, .int .u64 0, .int .u64 0, .int .u64 0, .int .u64 0] 147) = W at hW
  unfold SG SGc at *
  unfold BG at *
  go_enter Try.func70, Try.ntmps70
  go_wp2_with first
    | ((with_reducible refine (HZa.out _).mono ?_); rintro e wa ⟨rfl, rfl⟩)
    | ((with_reducible refine (HZb.out _).mono ?_); rintro e wa ⟨rfl, rfl⟩)
    | fail
  (try rw [hW])
  (with_reducible refine (HO.out _).mono ?_)
  rintro e w4 ⟨rfl, hb4⟩
  have z4 := hb4.size
  have hS4 : Hid (SGAt (w4.alloc (.cells (BGc t) 145)) w.heap.size p n) := Lib.hid (hS.out.kept (w' := w4.alloc (.cells (BGc t) 145)) (by (repeat first | assumption | exact Below.refl _ _ | refine Below.drew ?_ | refine Below.drewN ?_ _ | refine Below.alloc ?_ (by (first | omega | (simp; done) | (simp; omega))) _ | refine Below.setCell ?_ (by (first | omega | (simp; done) | (simp; omega))) _ | refine Below.trans ?_ (Below.mono (by assumption) (by (first | omega | (simp; done) | (simp; omega)))))))
  have hR4 : Hid (SGAt (w4.alloc (.cells (BGc t) 145)) (w.heap.size + 1) 0 0) := Lib.hid (hR.out.kept (w' := w4.alloc (.cells (BGc t) 145)) (by (repeat first | assumption | exact Below.refl _ _ | refine Below.drew ?_ | refine Below.drewN ?_ _ | refine Below.alloc ?_ (by (first | omega | (simp; done) | (simp; omega))) _ | refine Below.setCell ?_ (by (first | omega | (simp; done) | (simp; omega))) _ | refine Below.trans ?_ (Below.mono (by assumption) (by (first | omega | (simp; done) | (simp; omega)))))))
  have hB4 : Hid (BGAt (w4.alloc (.cells (BGc t) 145)) w4.heap.size t) := Lib.hid (BGAt.alloc _ _)
  have hb : Hid (Below w.heap.size w (w4.alloc (.cells (BGc t) 145))) := Lib.hid (by have := hbb.out; (repeat first | assumption | exact Below.refl _ _ | refine Below.drew ?_ | refine Below.drewN ?_ _ | refine Below.alloc ?_ (by (first | omega | (simp; done) | (simp; omega))) _ | refine Below.setCell ?_ (by (first | omega | (simp; done) | (simp; omega))) _ | refine Below.trans ?_ (Below.mono (by assumption) (by (first | omega | (simp; done) | (simp; omega))))))
  have z6 : w.heap.size + 2 ≤ (w4.alloc (.cells (BGc t) 145)).heap.size := by simp; omega
  generalize hW4 : w4.alloc (.cells (BGc t) 145) = W4 at *
  change w4.alloc (.cells #[.int .u64 (dg t 0), .int .u64 (dg t 1), .int .u64 (dg t 2), .int .u64 (dg t 3), .int .u64 (dg t 4), .int .u64 (dg t 5)] 145) = W4 at hW4
  clear hS hR hbb hb4
  have k4 := hB4.out
  obtain ⟨b0, b1, b2, b3, b4, b5, bf⟩ := k4
  obtain ⟨c0, c1, c2, c3, c4, c5, c6, c7, c8, c9, c10, c11, f0⟩ := hS4.out
  go_wp2_with fail
  (with_reducible refine (HP.out _).mono ?_)
  rintro e w5 ⟨rfl, hb5⟩
  have z5 := hb5.size
  have hR := Lib.hid (hR4.out)
  have k5 := hS4.out.kept hb5
  have k5' := k5
  have r5 := hR4.out.kept hb5
  clear b0 b1 b2 b3 b4 b5 bf c0 c1 c2 c3 c4 c5 c6 c7 c8 c9 c10 c11 f0
  have hS3 : Hid (SGAt (set12 (set6 w5 w.heap.size res) (w.heap.size + 1) res n) (w.heap.size + 1) res n) := Lib.hid ((r5.far6 (by omega)).set res n)
  have hb3 : Hid (Below w.heap.size w (set12 (set6 w5 w.heap.size res) (w.heap.size + 1) res n)) := Lib.hid (set6N_below (set6_below (set6_below (by have := hb.out; (repeat first | assumption | exact Below.refl _ _ | refine Below.drew ?_ | refine Below.drewN ?_ _ | refine Below.alloc ?_ (by (first | omega | (simp; done) | (simp; omega))) _ | refine Below.setCell ?_ (by (first | omega | (simp; done) | (simp; omega))) _ | refine Below.trans ?_ (Below.mono (by assumption) (by (first | omega | (simp; done) | (simp; omega)))))) (Nat.le_refl _)) (Nat.le_succ _)) (Nat.le_succ _))
  unfold set12 at hS3 hb3
  unfold set6N set6 at hS3 hb3
  clear hb hb5 z5 z6 hz0 hW hW4 hS4 hR4 hB4 hR k5 z4
  obtain ⟨_, _, _, _, _, _, _, _, _, _, _, _, f5⟩ := k5'
  obtain ⟨_, _, _, _, _, _, _, _, _, _, _, _, f6⟩ := r5
  go_wp2
  obtain ⟨c0, c1, c2, c3, c4, c5, c6, c7, c8, c9, c10, c11, f9⟩ := hS3.out
  exact bodyPost_ret (v := .agg #[.int .u64 (dg res 0), .int .u64 (dg res 1), .int .u64 (dg res 2), .int .u64 (dg res 3), .int .u64 (dg res 4), .int .u64 (dg res 5), .int .u64 (dg n 0), .int .u64 (dg n 1), .int .u64 (dg n 2), .int .u64 (dg n 3), .int .u64 (dg n 4), .int .u64 (dg n 5)]) (by simp [results, Try.results70, go_sem, c0, c1, c2, c3, c4, c5, c6, c7, c8, c9, c10, c11]) rfl ⟨rfl, hb3.out⟩

set_option maxHeartbeats 3200000 in
set_option maxRecDepth 100000 in
theorem bMulS_pp (p n a b : Int) (w : World) (ha : I64 a) (hb : I64 b) (h1 : ¬ a < 0) (h2 : ¬ b < 0) :
    Calls Try.prog 70 #[SG p n, .int .i64 a, .int .i64 b] w fun e w' => e = .returned (SG (p + absN a * absN b) n) ∧ Below w.heap.size w w' := by
  have HZa := Lib.hid (fun w => bSize_any a w ha)
  have HZb := Lib.hid (fun w => bSize_any b w hb)
  have HO := Lib.hid (fun w => bProd_any (absN a) (absN b) w (absN_bd ha).1 (absN_bd ha).2 (absN_bd hb).1 (absN_bd hb).2)
  have HP := Lib.hid (fun w => bPlus_any p (absN a * absN b) w)
  obtain ⟨W, hW, hS0, hR0, hb0, hz0⟩ := start12 w p n
  have hS := Lib.hid hS0
  have hR := Lib.hid hR0
  have hbb := Lib.hid hb0
  have d1 : decide (a < 0) = false := by simpa using h1
  have d2 : decide (b < 0) = false := by simpa using h2
  clear hS0 hR0 hb0 ha hb h1 h2
  generalize p + absN a * absN b = res at *
  generalize absN a * absN b = t at *
  generalize absN a = za at *
  generalize absN b = zb at *
  change (w.alloc (.cells (SGc p n) 147)).alloc (.cells #[.int .u64 0, .int .u64 0, .int .u64 0, .int .u64 0, .int .u64 0, .int .u64 0, .int .u64 0, .int .u64 0, .int .u64 0, .int .u64 0, .int .u64 0, .int .u64 0] 147) = W at hW
  unfold SG SGc at *
  unfold BG at *
  go_enter Try.func70, Try.ntmps70
  go_wp2_with first
    | ((with_reducible refine (HZa.out _).mono ?_); rintro e wa ⟨rfl, rfl⟩)
    | ((with_reducible refine (HZb.out _).mono ?_); rintro e wa ⟨rfl, rfl⟩)
    | fail
  (try rw [hW])
  (with_reducible refine (HO.out _).mono ?_)
  rintro e w4 ⟨rfl, hb4⟩
  have z4 := hb4.size
  have hS4 : Hid (SGAt (w4.alloc (.cells (BGc t) 145)) w.heap.size p n) := Lib.hid (hS.out.kept (w' := w4.alloc (.cells (BGc t) 145)) (by (repeat first | assumption | exact Below.refl _ _ | refine Below.drew ?_ | refine Below.drewN ?_ _ | refine Below.alloc ?_ (by (first | omega | (simp; done) | (simp; omega))) _ | refine Below.setCell ?_ (by (first | omega | (simp; done) | (simp; omega))) _ | refine Below.trans ?_ (Below.mono (by assumption) (by (first | omega | (simp; done) | (simp; omega)))))))
  have hR4 : Hid (SGAt (w4.alloc (.cells (BGc t) 145)) (w.heap.size + 1) 0 0) := Lib.hid (hR.out.kept (w' := w4.alloc (.cells (BGc t) 145)) (by (repeat first | assumption | exact Below.refl _ _ | refine Below.drew ?_ | refine Below.drewN ?_ _ | refine Below.alloc ?_ (by (first | omega | (simp; done) | (simp; omega))) _ | refine Below.setCell ?_ (by (first | omega | (simp; done) | (simp; omega))) _ | refine Below.trans ?_ (Below.mono (by assumption) (by (first | omega | (simp; done) | (simp; omega)))))))
  have hB4 : Hid (BGAt (w4.alloc (.cells (BGc t) 145)) w4.heap.size t) := Lib.hid (BGAt.alloc _ _)
  have hb : Hid (Below w.heap.size w (w4.alloc (.cells (BGc t) 145))) := Lib.hid (by have := hbb.out; (repeat first | assumption | exact Below.refl _ _ | refine Below.drew ?_ | refine Below.drewN ?_ _ | refine Below.alloc ?_ (by (first | omega | (simp; done) | (simp; omega))) _ | refine Below.setCell ?_ (by (first | omega | (simp; done) | (simp; omega))) _ | refine Below.trans ?_ (Below.mono (by assumption) (by (first | omega | (simp; done) | (simp; omega))))))
  have z6 : w.heap.size + 2 ≤ (w4.alloc (.cells (BGc t) 145)).heap.size := by simp; omega
  generalize hW4 : w4.alloc (.cells (BGc t) 145) = W4 at *
  change w4.alloc (.cells #[.int .u64 (dg t 0), .int .u64 (dg t 1), .int .u64 (dg t 2), .int .u64 (dg t 3), .int .u64 (dg t 4), .int .u64 (dg t 5)] 145) = W4 at hW4
  clear hS hR hbb hb4
  have k4 := hB4.out
  obtain ⟨b0, b1, b2, b3, b4, b5, bf⟩ := k4
  obtain ⟨c0, c1, c2, c3, c4, c5, c6, c7, c8, c9, c10, c11, f0⟩ := hS4.out
  go_wp2_with fail
  (with_reducible refine (HP.out _).mono ?_)
  rintro e w5 ⟨rfl, hb5⟩
  have z5 := hb5.size
  have hR := Lib.hid (hR4.out)
  have k5 := hS4.out.kept hb5
  have k5' := k5
  have r5 := hR4.out.kept hb5
  clear b0 b1 b2 b3 b4 b5 bf c0 c1 c2 c3 c4 c5 c6 c7 c8 c9 c10 c11 f0
  have hS3 : Hid (SGAt (set12 (set6 w5 w.heap.size res) (w.heap.size + 1) res n) (w.heap.size + 1) res n) := Lib.hid ((r5.far6 (by omega)).set res n)
  have hb3 : Hid (Below w.heap.size w (set12 (set6 w5 w.heap.size res) (w.heap.size + 1) res n)) := Lib.hid (set6N_below (set6_below (set6_below (by have := hb.out; (repeat first | assumption | exact Below.refl _ _ | refine Below.drew ?_ | refine Below.drewN ?_ _ | refine Below.alloc ?_ (by (first | omega | (simp; done) | (simp; omega))) _ | refine Below.setCell ?_ (by (first | omega | (simp; done) | (simp; omega))) _ | refine Below.trans ?_ (Below.mono (by assumption) (by (first | omega | (simp; done) | (simp; omega)))))) (Nat.le_refl _)) (Nat.le_succ _)) (Nat.le_succ _))
  unfold set12 at hS3 hb3
  unfold set6N set6 at hS3 hb3
  clear hb hb5 z5 z6 hz0 hW hW4 hS4 hR4 hB4 hR k5 z4
  obtain ⟨_, _, _, _, _, _, _, _, _, _, _, _, f5⟩ := k5'
  obtain ⟨_, _, _, _, _, _, _, _, _, _, _, _, f6⟩ := r5
  go_wp2
  obtain ⟨c0, c1, c2, c3, c4, c5, c6, c7, c8, c9, c10, c11, f9⟩ := hS3.out
  exact bodyPost_ret (v := .agg #[.int .u64 (dg res 0), .int .u64 (dg res 1), .int .u64 (dg res 2), .int .u64 (dg res 3), .int .u64 (dg res 4), .int .u64 (dg res 5), .int .u64 (dg n 0), .int .u64 (dg n 1), .int .u64 (dg n 2), .int .u64 (dg n 3), .int .u64 (dg n 4), .int .u64 (dg n 5)]) (by simp [results, Try.results70, go_sem, c0, c1, c2, c3, c4, c5, c6, c7, c8, c9, c10, c11]) rfl ⟨rfl, hb3.out⟩
end Go.Proofs.Ytdamenbpgkhiiaa
