/-
  Layer rand: words; the document's words.
  Layers wide, fix and rand: shifts by 32; one by a small number; numbers drawn between two bounds.
  'append(out, make([]T, m)...)': zeros at the end of a slice that the call owns. No program is named.
  Layer mlp: the parameters to begin with.
-/
import Derived.Test.YthingodgjeicpaaMlpJ
import Derived.Test.YthingodgjeicpaaDivB
import Derived.Test.YthingodgjeicpaaBits
import Derived.Test.YthingodgjeicpaaOwnS
namespace Go.Proofs.Ythingodgjeicpaa
open Go.RowKit
set_option linter.unusedVariables false
set_option linter.unusedSimpArgs false

theorem xor_bd (a b : Int) : 0 ≤ bits BinOp.xor IntKind.u64 a b ∧ bits BinOp.xor IntKind.u64 a b ≤ 18446744073709551615 := by
  have e : bits BinOp.xor IntKind.u64 a b = IntKind.u64.wrap (((BitVec.ofInt 64 a) ^^^ (BitVec.ofInt 64 b)).toNat : Int) := rfl
  rw [e]
  exact u64w_bd _
theorem tdiv_w {z n : Int} (h : 0 ≤ z ∧ z ≤ 18446744073709551615) (hn : 1 ≤ n) : IntKind.u64.wrap (z.tdiv n) = z / n := by
  rw [Int.tdiv_eq_ediv_of_nonneg h.1, IntKind.wrap_u64]
  have h1 := Int.ediv_nonneg h.1 (show 0 ≤ n by omega)
  have h2 := Int.ediv_le_self (a := z) n h.1
  omega
def st1 (x : Int) : Int := IntKind.u64.wrap (bits BinOp.xor IntKind.u64 x (x / 4294967296) * 11400714819323198549)
def st2 (y : Int) : Int := IntKind.u64.wrap (bits BinOp.xor IntKind.u64 y (y / 536870912) * 15241094284759029579)
def stirN (x : Int) : Int := bits BinOp.xor IntKind.u64 (st2 (st1 x)) (st2 (st1 x) / 4294967296)
theorem stirN_bd (x : Int) : 0 ≤ stirN x ∧ stirN x ≤ 18446744073709551615 := xor_bd _ _

set_option maxHeartbeats 400000 in
theorem stir_any (x : Int) (w : World) :
    Calls Try.prog 74 #[.int .u64 x] w fun e w' => e = .returned (.int .u64 (stirN x)) ∧ w = w' := by
  go_enter Try.func74, Try.ntmps74
  go_wp2
  go_ret
  exact ⟨rfl, rfl⟩

set_option maxHeartbeats 400000 in
theorem rstir_any (x : Int) (w : World) (h : 0 ≤ x ∧ x ≤ 18446744073709551615) :
    Calls Try.prog 78 #[.int .u64 x] w fun e w' => e = .returned (.int .u64 (stirN x)) ∧ w = w' := by
  have e1 := tdiv_w h (show (1 : Int) ≤ 4294967296 by omega)
  have e2 := tdiv_w (u64w_bd (bits BinOp.xor IntKind.u64 x (x / 4294967296) * 11400714819323198549)) (show (1 : Int) ≤ 536870912 by omega)
  have e3 := tdiv_w (u64w_bd (bits BinOp.xor IntKind.u64 (st1 x) (st1 x / 536870912) * 15241094284759029579)) (show (1 : Int) ≤ 4294967296 by omega)
  unfold st1 at e3
  have h0 := h.1
  go_enter Try.func78, Try.ntmps78
  go_wp2
  go_ret
  exact ⟨rfl, rfl⟩

def mixN (w a : Int) : Int := stirN (IntKind.u64.wrap (bits BinOp.xor IntKind.u64 w a + 14029467366897019727))
def rootN (seed : Int) : Int := mixN (mixN (mixN (stirN (IntKind.u64.wrap (seed + 7046029254386353131))) 3) 0) 0
def wordN (seed i : Int) : Int := stirN (bits BinOp.xor IntKind.u64 (rootN seed) (IntKind.u64.wrap (i * 11400714819323198485)))
def keyV (seed : Int) : Value := .agg #[.int .u64 seed, .int .i64 3, .int .i64 0, .int .i64 0]
def partN (seed i : Int) : Int := wordN seed i / 4294967296
theorem partN_bd (seed i : Int) : 0 ≤ partN seed i ∧ partN seed i ≤ 4294967295 := by
  have := stirN_bd (bits BinOp.xor IntKind.u64 (rootN seed) (IntKind.u64.wrap (i * 11400714819323198485)))
  unfold partN wordN
  omega

theorem ix0 (w : World) : (Instr.index 152 (.agg #[.int .i64 3, .int .i64 0, .int .i64 0]) (.int .i64 0)).run Try.prog w = .ok (.int .i64 3) w := by kernel_rfl
theorem ix1 (w : World) : (Instr.index 152 (.agg #[.int .i64 3, .int .i64 0, .int .i64 0]) (.int .i64 1)).run Try.prog w = .ok (.int .i64 0) w := by kernel_rfl
theorem ix2 (w : World) : (Instr.index 152 (.agg #[.int .i64 3, .int .i64 0, .int .i64 0]) (.int .i64 2)).run Try.prog w = .ok (.int .i64 0) w := by kernel_rfl

set_option maxHeartbeats 800000 in
set_option maxRecDepth 20000 in
theorem root_any (seed : Int) (w : World) :
    Calls Try.prog 75 #[keyV seed] w fun e w' => e = .returned (.int .u64 (rootN seed)) ∧ Below w.heap.size w w' := by
  have HS := Lib.hid (fun x w => stir_any x w)
  have I0 := ix0
  have I1 := ix1
  have I2 := ix2
  unfold keyV
  go_enter Try.func75, Try.ntmps75
  go_wp2_with first
    | ((with_reducible refine (HS.out _ _).mono ?_); rintro e w1 ⟨rfl, rfl⟩)
    | fail
  refine wp_loop_rounds 4 ?_
  rw [rounds_succ]
  go_wp2_with first
    | ((with_reducible refine (HS.out _ _).mono ?_); rintro e w1 ⟨rfl, rfl⟩)
    | fail
  rw [rounds_succ]
  go_wp2_with first
    | ((with_reducible refine (HS.out _ _).mono ?_); rintro e w1 ⟨rfl, rfl⟩)
    | fail
  rw [rounds_succ]
  go_wp2_with first
    | ((with_reducible refine (HS.out _ _).mono ?_); rintro e w1 ⟨rfl, rfl⟩)
    | fail
  rw [rounds_succ]
  go_wp2
  go_ret
  exact ⟨rfl, by (repeat first | assumption | exact Below.refl _ _ | refine Below.drew ?_ | refine Below.drewN ?_ _ | refine Below.alloc ?_ (by (first | omega | (simp; done) | (simp; omega))) _ | refine Below.setCell ?_ (by (first | omega | (simp; done) | (simp; omega))) _ | refine Below.trans ?_ (Below.mono (by assumption) (by (first | omega | (simp; done) | (simp; omega)))))⟩

set_option maxHeartbeats 800000 in
set_option maxRecDepth 20000 in
theorem Word_any (seed : Int) (i : Nat) (w : World) (hi : i ≤ 1000000) :
    Calls Try.prog 56 #[keyV seed, .int .i64 i] w fun e w' => e = .returned (.int .u64 (wordN seed i)) ∧ Below w.heap.size w w' := by
  have HS := Lib.hid (fun x w => stir_any x w)
  have HR := Lib.hid (fun w => root_any seed w)
  have hwi : IntKind.u64.wrap (i : Int) = (i : Int) := by rw [IntKind.wrap_u64]; omega
  unfold keyV at *
  go_enter Try.func56, Try.ntmps56
  go_wp2_with first
    | ((with_reducible refine (HS.out _ _).mono ?_); rintro e w1 ⟨rfl, rfl⟩)
    | ((with_reducible refine (HR.out _).mono ?_); rintro e w2 ⟨rfl, hb2⟩)
    | fail
  go_ret
  exact ⟨rfl, by (repeat first | assumption | exact Below.refl _ _ | refine Below.drew ?_ | refine Below.drewN ?_ _ | refine Below.alloc ?_ (by (first | omega | (simp; done) | (simp; omega))) _ | refine Below.setCell ?_ (by (first | omega | (simp; done) | (simp; omega))) _ | refine Below.trans ?_ (Below.mono (by assumption) (by (first | omega | (simp; done) | (simp; omega)))))⟩

set_option maxHeartbeats 800000 in
set_option maxRecDepth 20000 in
theorem Part_any (seed : Int) (i : Nat) (w : World) (hi : i ≤ 1000000) :
    Calls Try.prog 33 #[keyV seed, .int .i64 i] w fun e w' => e = .returned (.int .i64 (partN seed i)) ∧ Below w.heap.size w w' := by
  have HW := Lib.hid (fun w => Word_any seed i w hi)
  have hp : wrap64 (wordN seed i / 4294967296) = wordN seed i / 4294967296 := by
    have := partN_bd seed i
    unfold partN at this
    unfold wrap64
    omega
  have e1 : Hid (partN seed i = wordN seed i / 4294967296) := Lib.hid rfl
  rw [e1.out]
  unfold keyV at *
  generalize wordN seed i = z at *
  go_enter Try.func33, Try.ntmps33
  go_wp2_with first
    | ((with_reducible refine (HW.out _).mono ?_); rintro e w2 ⟨rfl, hb2⟩)
    | fail
  go_ret
  refine ⟨?_, by (repeat first | assumption | exact Below.refl _ _ | refine Below.drew ?_ | refine Below.drewN ?_ _ | refine Below.alloc ?_ (by (first | omega | (simp; done) | (simp; omega))) _ | refine Below.setCell ?_ (by (first | omega | (simp; done) | (simp; omega))) _ | refine Below.trans ?_ (Below.mono (by assumption) (by (first | omega | (simp; done) | (simp; omega)))))⟩
  rw [hp]
  rfl

set_option maxHeartbeats 1600000 in
set_option maxRecDepth 20000 in
theorem rWord_any (seed : Int) (i : Nat) (w : World) (hi : i ≤ 1000000) :
    Calls Try.prog 62 #[keyV seed, .int .i64 i] w fun e w' => e = .returned (.int .u64 (wordN seed i)) ∧ Below w.heap.size w w' := by
  have HS := Lib.hid (fun x w => rstir_any (IntKind.u64.wrap x) w (u64w_bd _))
  have HX := Lib.hid (fun a b w => rstir_any (bits BinOp.xor IntKind.u64 a b) w (xor_bd _ _))
  have hwi : IntKind.u64.wrap (i : Int) = (i : Int) := by rw [IntKind.wrap_u64]; omega
  unfold keyV at *
  go_enter Try.func62, Try.ntmps62
  go_wp2_with first
    | ((with_reducible refine (HS.out _ _).mono ?_); rintro e w1 ⟨rfl, rfl⟩)
    | ((with_reducible refine (HX.out _ _ _).mono ?_); rintro e w1 ⟨rfl, rfl⟩)
    | fail
  go_ret
  exact ⟨rfl, by (repeat first | assumption | exact Below.refl _ _ | refine Below.drew ?_ | refine Below.drewN ?_ _ | refine Below.alloc ?_ (by (first | omega | (simp; done) | (simp; omega))) _ | refine Below.setCell ?_ (by (first | omega | (simp; done) | (simp; omega))) _ | refine Below.trans ?_ (Below.mono (by assumption) (by (first | omega | (simp; done) | (simp; omega)))))⟩

set_option maxHeartbeats 800000 in
set_option maxRecDepth 20000 in
theorem rPart_any (seed : Int) (i : Nat) (w : World) (hi : i ≤ 1000000) :
    Calls Try.prog 41 #[keyV seed, .int .i64 i] w fun e w' => e = .returned (.int .i64 (partN seed i)) ∧ Below w.heap.size w w' := by
  have HW := Lib.hid (fun w => rWord_any seed i w hi)
  have hz := stirN_bd (bits BinOp.xor IntKind.u64 (rootN seed) (IntKind.u64.wrap (i * 11400714819323198485)))
  change 0 ≤ wordN seed i ∧ wordN seed i ≤ _ at hz
  have ht := tdiv_w hz (show (1 : Int) ≤ 4294967296 by omega)
  have hp : wrap64 (wordN seed i / 4294967296) = wordN seed i / 4294967296 := by
    have := partN_bd seed i
    unfold partN at this
    unfold wrap64
    omega
  have e1 : Hid (partN seed i = wordN seed i / 4294967296) := Lib.hid rfl
  rw [e1.out]
  unfold keyV at *
  generalize wordN seed i = z at *
  go_enter Try.func41, Try.ntmps41
  go_wp2_with first
    | ((with_reducible refine (HW.out _).mono ?_); rintro e w2 ⟨rfl, hb2⟩)
    | fail
  go_ret
  exact ⟨rfl, by (repeat first | assumption | exact Below.refl _ _ | refine Below.drew ?_ | refine Below.drewN ?_ _ | refine Below.alloc ?_ (by (first | omega | (simp; done) | (simp; omega))) _ | refine Below.setCell ?_ (by (first | omega | (simp; done) | (simp; omega))) _ | refine Below.trans ?_ (Below.mono (by assumption) (by (first | omega | (simp; done) | (simp; omega)))))⟩

set_option maxHeartbeats 1600000 in
set_option maxRecDepth 20000 in
theorem Shl_one (w : World) :
    Calls Try.prog 28 #[W 1, .int .i64 32] w fun e w' => e = .returned (W 4294967296) ∧ Below w.heap.size w w' := by
  have h1 : whi 1 = 0 := by unfold whi wrap64; omega
  have h2 : wlo 1 = 1 := by decide
  have h3 : whi 4294967296 = 0 := by unfold whi wrap64; omega
  have h4 : wlo 4294967296 = 4294967296 := by decide
  have ho : bits BinOp.or IntKind.i64 0 0 = 0 := by decide
  unfold W
  rw [h1, h2, h3, h4]
  go_enter Try.func28, Try.ntmps28
  go_wp2
  go_region
  all_goals go_wp2
  all_goals exact bodyPost_ret (v := .agg #[.int .i64 0, .int .u64 4294967296]) (by simp [results, Try.results28, go_sem, ho]) rfl ⟨rfl, by (repeat first | assumption | exact Below.refl _ _ | refine Below.drew ?_ | refine Below.drewN ?_ _ | refine Below.alloc ?_ (by (first | omega | (simp; done) | (simp; omega))) _ | refine Below.setCell ?_ (by (first | omega | (simp; done) | (simp; omega))) _ | refine Below.trans ?_ (Below.mono (by assumption) (by (first | omega | (simp; done) | (simp; omega)))))⟩

/-- One by a small number. -/
def bN (d : Nat) : Int := rne 4294967296 d
theorem bN_bd {d : Nat} (h : 1 ≤ d ∧ d ≤ 64) : 1 ≤ bN d ∧ bN d ≤ 4294967296 := by
  have h1 := Int.emod_nonneg 4294967296 (b := (d : Int)) (by omega)
  have h3 : (4294967296 : Int) / d ≤ 4294967296 := Int.ediv_le_self _ (by omega)
  have h4 : 67108864 ≤ (4294967296 : Int) / d := by
    rw [Int.le_ediv_iff_mul_le (by omega)]
    omega
  unfold bN rne
  by_cases h5 : (d : Int) = 1
  · rw [h5]; decide
  · have h6 : (4294967296 : Int) / d ≤ 2147483648 := by
      rw [Int.ediv_le_iff_le_mul (by omega)]
      omega
    split <;> omega

theorem clampI_in' {x : Int} (h : I64 x) : clampI x = x ∧ over x = false := by
  unfold I64 at h; unfold clampI over; rw [if_neg (by omega), if_neg (by omega)]; simp; omega

set_option maxHeartbeats 1600000 in
set_option maxRecDepth 20000 in
theorem Ratio_any (d : Nat) (w : World) (h : 1 ≤ d ∧ d ≤ 64) :
    Calls Try.prog 16 #[.int .i64 1, .int .i64 d] w fun e w' => e = .returned (.tuple #[.int .i64 (bN d), .bool false]) ∧ Below w.heap.size w w' := by
  have HO := Lib.hid (fun w => Of_any 1 w (by unfold I64; omega))
  have HS := Lib.hid (fun w => Shl_one w)
  have HQ := Lib.hid (fun w => Quo_any 4294967296 d w (by omega) (by omega) (by omega))
  have HH := Lib.hid (fun w => held_any (bN d) w (by have := bN_bd h; unfold I128; omega))
  rw [show Held (bN d) = .tuple #[.int .i64 (bN d), .bool false] by unfold Held; rw [(clampI_in' (by have := bN_bd h; unfold I64; omega)).1, (clampI_in' (by have := bN_bd h; unfold I64; omega)).2]] at HH
  rw [show rne 4294967296 (d : Int) = bN d from rfl] at HQ
  clear h
  generalize bN d = b at *
  unfold W at *
  go_enter Try.func16, Try.ntmps16
  go_wp2_with fail
  ((with_reducible refine (HO.out _).mono ?_); rintro e w1 ⟨rfl, hb1⟩)
  go_wp2_with fail
  ((with_reducible refine (HS.out _).mono ?_); rintro e w2 ⟨rfl, hb2⟩)
  go_wp2_with fail
  ((with_reducible refine (HQ.out _).mono ?_); rintro e w3 ⟨rfl, hb3⟩)
  have Hb3 : Hid (Below w.heap.size w w3) := Lib.hid (hb1.trans ((hb2.mono hb1.size).trans (hb3.mono (Nat.le_trans hb1.size hb2.size))))
  have hz3 := Hb3.out.size
  clear hb1 hb2 hb3
  go_wp2_with fail
  ((with_reducible refine (HH.out _).mono ?_); rintro e w4 ⟨rfl, hb4⟩)
  go_wp2
  go_ret2
  exact ⟨rfl, by have := Hb3.out; (repeat first | assumption | exact Below.refl _ _ | refine Below.drew ?_ | refine Below.drewN ?_ _ | refine Below.alloc ?_ (by (first | omega | (simp; done) | (simp; omega))) _ | refine Below.setCell ?_ (by (first | omega | (simp; done) | (simp; omega))) _ | refine Below.trans ?_ (Below.mono (by assumption) (by (first | omega | (simp; done) | (simp; omega)))))⟩

def betN (seed i b : Int) : Int := 2 * b * partN seed i / 4294967296 - b
theorem betN_bd (seed i : Int) {b : Int} (hb : 1 ≤ b ∧ b ≤ 4294967296) : 0 ≤ 2 * b * partN seed i ∧ 2 * b * partN seed i ≤ 36893488147419103232 ∧ -4294967296 ≤ betN seed i b ∧ betN seed i b ≤ 8589934592 := by
  obtain ⟨p0, p1⟩ := partN_bd seed i
  have h1 : 0 ≤ 2 * b * partN seed i := Int.mul_nonneg (by omega) p0
  have h2 : 2 * b * partN seed i ≤ 8589934592 * 4294967295 := Int.mul_le_mul (by omega) p1 p0 (by omega)
  unfold betN
  generalize 2 * b * partN seed i = x at *
  omega

set_option maxHeartbeats 1600000 in
set_option maxRecDepth 20000 in
theorem Between_any (seed : Int) (i : Nat) (b : Int) (w : World) (hi : i ≤ 1000000) (hb : 1 ≤ b ∧ b ≤ 4294967296) :
    Calls Try.prog 17 #[keyV seed, .int .i64 i, .int .i64 (-b), .int .i64 b] w fun e w' => e = .returned (.int .i64 (betN seed i b)) ∧ Below w.heap.size w w' := by
  obtain ⟨x0, x1, y0, y1⟩ := betN_bd seed i hb
  have HP := Lib.hid (fun w => Part_any seed i w hi)
  obtain ⟨p0, p1⟩ := partN_bd seed i
  have HM := Lib.hid (fun w => Mul64_any (2 * b).toNat (partN seed i).toNat (by omega) (by omega) w)
  rw [Int.toNat_of_nonneg (show 0 ≤ 2 * b by omega), Int.toNat_of_nonneg p0] at HM
  have hX : (((2 * b).toNat * (partN seed i).toNat : Nat) : Int) = 2 * b * partN seed i := by
    rw [Int.natCast_mul, Int.toNat_of_nonneg (show 0 ≤ 2 * b by omega), Int.toNat_of_nonneg p0]
  simp only [Int.natCast_ediv, Int.natCast_emod, hX, show ((18446744073709551616 : Nat) : Int) = 18446744073709551616 from rfl] at HM
  have HS := Lib.hid (fun w => Shr32_any (2 * b * partN seed i) w (by unfold I128; omega))
  have HO := Lib.hid (fun w => Of_any (-b) w (by unfold I64; omega))
  have HA := Lib.hid (fun w => Add_any (2 * b * partN seed i / 4294967296) (-b) w)
  have eB : 2 * b * partN seed i / 4294967296 + -b = betN seed i b := by unfold betN; omega
  rw [eB] at HA
  have HC := Lib.hid (fun w => Clamp_any (betN seed i b) w (by unfold I128; omega))
  have hI : I64 (betN seed i b) := by unfold I64; omega
  rw [(clampI_in' hI).1, (clampI_in' hI).2] at HC
  have eh : wrap64 (2 * b * partN seed i / 18446744073709551616) = whi (2 * b * partN seed i) := rfl
  have el : 2 * b * partN seed i % 18446744073709551616 = wlo (2 * b * partN seed i) := rfl
  have c1 : IntKind.u64.wrap b = b := by rw [IntKind.wrap_u64]; omega
  have c2 : IntKind.u64.wrap (b - IntKind.u64.wrap (-b)) = 2 * b := by rw [IntKind.wrap_u64, IntKind.wrap_u64]; omega
  have c3 : IntKind.u64.wrap (partN seed i) = partN seed i := by rw [IntKind.wrap_u64]; omega
  have hlt : ¬ b ≤ -b := by omega
  have hI2 : clampI (betN seed i b) = betN seed i b := (clampI_in' hI).1
  clear x0 x1 y0 y1 hX eB hI hb p0 p1 hI2
  unfold W at *
  generalize betN seed i b = r at *
  generalize 2 * b * partN seed i = X at *
  generalize partN seed i = P at *
  unfold keyV at *
  go_enter Try.func17, Try.ntmps17
  go_wp2_with fail
  ((with_reducible refine (HP.out _).mono ?_); rintro e w1 ⟨rfl, hb1⟩)
  have hz1 := hb1.size
  have Hb1 : Hid (Below w.heap.size w w1) := Lib.hid (by (repeat first | assumption | exact Below.refl _ _ | refine Below.drew ?_ | refine Below.drewN ?_ _ | refine Below.alloc ?_ (by (first | omega | (simp; done) | (simp; omega))) _ | refine Below.setCell ?_ (by (first | omega | (simp; done) | (simp; omega))) _ | refine Below.trans ?_ (Below.mono (by assumption) (by (first | omega | (simp; done) | (simp; omega))))))
  clear hb1
  go_wp2_with fail
  ((with_reducible refine (HM.out _).mono ?_); rintro e w2 ⟨rfl, rfl⟩)
  have Hb2 : ∀ o, Hid (Below w.heap.size w (w1.alloc o)) := fun o => Lib.hid (Hb1.out.alloc Hb1.out.size _)
  go_wp2_with fail
  ((with_reducible refine (HS.out _).mono ?_); rintro e w3 ⟨rfl, hb3⟩)
  have Hb3 : Hid (Below w.heap.size w w3) := Lib.hid ((Hb2 _).out.trans (hb3.mono (Hb2 _).out.size))
  clear hb3
  go_wp2_with fail
  ((with_reducible refine (HO.out _).mono ?_); rintro e w4 ⟨rfl, hb4⟩)
  have Hb4 : Hid (Below w.heap.size w w4) := Lib.hid (Hb3.out.trans (hb4.mono Hb3.out.size))
  clear hb4
  go_wp2_with fail
  ((with_reducible refine (HA.out _).mono ?_); rintro e w5 ⟨rfl, hb5⟩)
  have Hb5 : Hid (Below w.heap.size w w5) := Lib.hid (Hb4.out.trans (hb5.mono Hb4.out.size))
  clear hb5
  go_wp2_with fail
  ((with_reducible refine (HC.out _).mono ?_); rintro e w6 ⟨rfl, hb6⟩)
  have Hb6 : Hid (Below w.heap.size w w6) := Lib.hid (Hb5.out.trans (hb6.mono Hb5.out.size))
  clear hb6
  go_wp2
  go_ret
  exact ⟨rfl, Hb6.out⟩

theorem zc_eq (z : Value) (hz : z.cells = #[z]) (m : Nat) : Builtin.zeroCells z.cells m = (List.replicate m z).toArray := by
  rw [hz]
  apply Array.ext
  · simp [Builtin.zeroCells]
  · intro i h1 h2
    simp [Builtin.zeroCells, Nat.mod_one]

section
variable {P : Program} (w : World)

theorem run_app_zeros (base : Nat) (t u ty e : TypeId) (i : TypeInfo) (z : Value) (bytes : Nat) (ht : P.underlying t = some (.slice e)) (hu : P.underlying u = some (.int .i64)) (hi : P.info? e = some i) (hz : i.zero = some z)
    (hsize : i.size = 1) (hby : i.bytes = bytes) (hzs : z.cells = #[z]) (h1 : z.oneCell' = true)
    (v : Value) (n : Nat) (xs : List Value) (hown : w.ownsRow base e 1 v n xs) (m : Nat) (hm : 0 < m)
    (h63 : n + m ≤ maxLen) (hbytes : (n + m) * bytes ≤ 140737488355328) (hbase : base ≤ w.heap.size) :
    ∃ v' w', (Builtin.append_ #[t, u] ty #[v, .int .i64 m]).run P w = .ok v' w' ∧ w'.ownsRow base e 1 v' (n + m) (xs ++ List.replicate m z) ∧ w.grownBy w' v.ownBlock := by
  subst hby
  have hsmall : n + m ≤ 9223372036854775807 := by simp only [maxLen] at h63; omega
  have hwm : IntKind.i64.wrap (m : Int) = (m : Int) := by rw [IntKind.wrap_i64]; omega
  have hmb : m * i.bytes ≤ 140737488355328 := Nat.le_trans (Nat.mul_le_mul_right _ (by omega)) hbytes
  have hmb' : ¬ (281474976710656 < (m : Int) * (i.bytes : Int)) := by
    have : ((m * i.bytes : Nat) : Int) = (m : Int) * (i.bytes : Int) := by simp
    omega
  have hm0 : ¬ m = 0 := by omega
  have hmx : max (m : Int) 0 = (m : Int) := by omega
  have hl0 : ¬ ((m : Int) < 0) := by omega
  have hlen : (xs ++ List.replicate m z).length = (n + m) * 1 := by rw [List.length_append, hown.1, List.length_replicate]; omega
  have grown : ∀ (old : Nat), ∀ (row : Option Nat),
      (w.drew.alloc (.cells (xs.toArray ++ (List.replicate m z).toArray ++ Builtin.zeroCells z.cells (grownCap w (n + m) old e - (n + m))) e)).ownsRow base e 1
        (.slice (some ⟨w.heap.size, 0, none⟩) (n + m) (grownCap w (n + m) old e)) (n + m) (xs ++ List.replicate m z) ∧
      w.grownBy (w.drew.alloc (.cells (xs.toArray ++ (List.replicate m z).toArray ++ Builtin.zeroCells z.cells (grownCap w (n + m) old e - (n + m))) e)) row := by
    intro old row
    have hge := grownCap_ge w (n + m) old e
    have hcm : grownCap w (n + m) old e ≤ maxLen := grownCap_le_maxLen w (n + m) old e h63
    refine ⟨⟨hlen, .inr ⟨w.heap.size, _, _, rfl, hbase, heap_alloc_new w.drew _, hge, hcm, ?_, ?_⟩⟩, ⟨rfl, rfl, rfl, by simp, fun k hk _ => heap_alloc_old w.drew _ hk⟩⟩
    · have h2 := hown.1
      simp only [Array.size_append, List.size_toArray, size_zeroCells, hzs, List.length_replicate, Array.size_singleton]
      simp
      omega
    · simp only [Array.toList_append, List.append_assoc]
      rw [← List.append_assoc, ← hlen]
      exact List.take_left
  have hz2 := zc_eq z hzs m
  rcases hown.2 with ⟨rfl, rfl⟩ | ⟨g, cap, cur, rfl, hbg, hg, hnc, hcm, hcs, htake⟩
  · have hx : xs = [] := List.eq_nil_of_length_eq_zero (by simpa using hown.1)
    subst hx
    have h48' : ¬ (281474976710656 < Builtin.nextslicecap m 0 * i.bytes) := by rw [nextslicecap_zero hm]; omega
    have h63' : ¬ (9223372036854775807 < (m : Int)) := by omega
    have hgr := grown 0 (Value.ownBlock (.slice none 0 0))
    simp only [Nat.zero_add, List.nil_append, Array.empty_append] at hgr ⊢
    refine ⟨_, _, ?_, hgr.1, hgr.2⟩
    simp [Builtin.append_, run_underlying ht, run_underlying hu, sizeOf, typeInfo, zeroValue, hi, hz, asInt, asIntOf, hwm, hmx, hl0, hmb', hsize, hm0, h63', h48', hz2, Question.forced, Builtin.firstCells, newRow, grownCap]
  · by_cases hroom : n + m ≤ cap
    · have hfit : n + (List.replicate m z).length ≤ cur.size := by rw [List.length_replicate]; omega
      have hst := run_storeCells_at P g n e (List.replicate m z) 0 cur w hg (by simpa using hfit) (fun u hu => by rw [List.eq_of_mem_replicate hu]; exact h1)
      simp only [Nat.add_zero] at hst
      refine ⟨.slice (some ⟨g, 0, none⟩) (n + m) cap, w.setRow g (cur.toList.take n ++ List.replicate m z ++ cur.toList.drop (n + (List.replicate m z).length)).toArray, ?_, ⟨hlen, .inr ⟨g, cap, _, rfl, hbg, setRow_heap w g cur _ e _ hg, hroom, hcm, ?_, ?_⟩⟩, ⟨rfl, rfl, rfl, by simp, fun k _ hk => setRow_other w g k _ (fun e => hk (by simp [Value.ownBlock, e]))⟩⟩
      · simp [Builtin.append_, run_underlying ht, run_underlying hu, sizeOf, typeInfo, zeroValue, hi, hz, asInt, asIntOf, hwm, hmx, hl0, hmb', hsize, hm0, hroom, hz2, Addr.add_lit]
        simp at hst
        simp [hst]
      · simp only [List.size_toArray, List.length_append, List.length_take, List.length_drop, Array.length_toList, List.length_replicate]
        omega
      · rw [Nat.mul_one] at htake
        rw [htake, ← hlen]
        exact List.take_left
    · have holds : ∀ j u, xs[j]? = some u → w.cell? ((⟨g, 0, none⟩ : Addr).add j) = some u := hown.cells (g := g) rfl
      have hfo := run_firstCells_some (P := P) w.drew 1 n ⟨g, 0, none⟩ n cap xs hown.1 (by simpa using holds)
      have hfit := growslice_fits (need := n + m) (old := cap) (by omega) hbytes
      have h48' : ¬ (281474976710656 < Builtin.nextslicecap (n + m) cap * i.bytes) := by omega
      have h63' : ¬ (9223372036854775807 < ((n : Int) + (m : Int))) := by omega
      have hgr := grown cap (Value.ownBlock (.slice (some ⟨g, 0, none⟩) n cap))
      refine ⟨_, _, ?_, hgr.1, hgr.2⟩
      simp [Builtin.append_, run_underlying ht, run_underlying hu, sizeOf, typeInfo, zeroValue, hi, hz, asInt, asIntOf, hwm, hmx, hl0, hmb', hsize, hm0, hroom, h63', h48', hz2, Question.forced, hfo, newRow, grownCap]
end

theorem wpl_appZ {P : Program} {ops : Array Oper} {rest : List Oper} {o : Oper} {a : Act} {Q : Exit → Act → World → Prop} {w : World} {T U E : TypeId} {bytes : Nat} {z : Value} (he : Elem P T E 1 bytes z) (hU : P.underlying U = some (.int .i64)) (hzs : z.cells = #[z]) (h1 : z.oneCell' = true) (hgd : o.guard = none) (s x : Operand)
    (ho : o.op = .call { callee := .builtin .append, args := #[s, x], argTypes := #[T, U] }) (B : Nat) (v : Value) (n : Nat) (xs : List Value) (hs : a.eval s = v) (hown : w.ownsRow B E 1 v n xs)
    (m : Nat) (hx : a.eval x = .int .i64 m) (hm : 0 < m)
    (h63 : n + m ≤ maxLen) (hbytes : (n + m) * bytes ≤ 140737488355328) (hbase : B ≤ w.heap.size)
    (h : ∀ v' w', w'.ownsRow B E 1 v' (n + m) (xs ++ List.replicate m z) → w.grownBy w' v.ownBlock → wpList P ops Q rest (a.put o.dst v') w') : wpList P ops Q (o :: rest) a w := by
  obtain ⟨i0, hi, hz0, hz1, hz2⟩ := info_parts he.inf
  obtain ⟨v', w', hr, h2, h3⟩ := run_app_zeros (P := P) w B T U o.type E i0 z bytes he.und hU hi hz0 hz1 hz2 hzs h1 v n xs hown m hm h63 hbytes hbase
  refine wpl_of_op hgd ?_
  unfold Oper.wp execOp
  simp only [ho, resolve, invoke, builtin, Sem.run_bind, Sem.run_pure, Result.andThen_ok, List.map_toArray, List.map_cons, List.map_nil, hs, hx, hr]
  exact h v' w' h2 h3

def layL (s : List Int) (seed : Int) (l k : Nat) : List Int := (List.range k).map fun j => betN seed ((fst s l + j : Nat) : Int) (bN (szN s l))
theorem layL_succ (s : List Int) (seed : Int) (l k : Nat) : layL s seed l (k + 1) = layL s seed l k ++ [betN seed ((fst s l + k : Nat) : Int) (bN (szN s l))] := by simp [layL, List.range_succ]
theorem layL_len (s : List Int) (seed : Int) (l k : Nat) : (layL s seed l k).length = k := by simp [layL]
def layI (s : List Int) (seed : Int) (l : Nat) : List Int := layL s seed l (szN s (l + 1) * szN s l) ++ List.replicate (szN s (l + 1)) 0
def iniP (s : List Int) (seed : Int) (l : Nat) : List Int := (List.range l).flatMap (layI s seed)
theorem iniP_succ (s : List Int) (seed : Int) (l : Nat) : iniP s seed (l + 1) = iniP s seed l ++ layI s seed l := by simp [iniP, List.range_succ, List.flatMap_append]
theorem iniP_len (s : List Int) (seed : Int) : ∀ l, (iniP s seed l).length = fst s l
  | 0 => rfl
  | l + 1 => by
    rw [iniP_succ, List.length_append, iniP_len s seed l, fst_succ]
    simp only [layI, List.length_append, layL_len, List.length_replicate]

set_option maxHeartbeats 800000 in
theorem Init_bad (seed : Int) (aS : Option Addr) (ns cS : Nat) (s : List Int) (w : World) (hs : Rd w .i64 aS ns s) (hok : ¬ okS s) :
    Calls Try.prog 7 #[.int .u64 seed, .slice aS ns cS] w fun e w' => e = .returned (.tuple #[.slice none 0 0, .int .i64 70]) ∧ w = w' := by
  have HCo := Lib.hid (mCount_any aS ns cS s w hs)
  have hce : cnt s = (0, 70) := by unfold cnt; rw [if_neg hok]
  rw [hce] at HCo
  clear hs hok hce
  go_enter Try.func7, Try.ntmps7
  go_wp2_with fail
  ((with_reducible refine (HCo.out).mono ?_); rintro e w1 ⟨rfl, rfl⟩)
  go_wp2
  go_ret2
  exact ⟨rfl, rfl⟩

/-- The key that Init draws by, at a block. -/
def KeyRow (w : World) (B g : Nat) (seed : Int) : Prop := w.ownsRow B 49 4 (.slice (some ⟨g, 0, none⟩) 1 1) 1 [.int .u64 seed, .int .i64 3, .int .i64 0, .int .i64 0]
theorem KeyRow.cells {w : World} {B g : Nat} {seed : Int} (h : KeyRow w B g seed) : w.cell? ⟨g, 0, none⟩ = some (.int .u64 seed) ∧ w.cell? ⟨g, 1, none⟩ = some (.int .i64 3) ∧ w.cell? ⟨g, 2, none⟩ = some (.int .i64 0) ∧ w.cell? ⟨g, 3, none⟩ = some (.int .i64 0) := by
  have h0 := World.ownsRow.cells h (g := g) rfl
  have k0 := h0 0 _ rfl
  have k1 := h0 1 _ rfl
  have k2 := h0 2 _ rfl
  have k3 := h0 3 _ rfl
  simp [Addr.add] at k0 k1 k2 k3
  exact ⟨k0, k1, k2, k3⟩

set_option maxHeartbeats 3200000 in
set_option maxRecDepth 100000 in
theorem Init_ok (seed : Int) (aS : Option Addr) (ns cS : Nat) (s : List Int) (m : Nat) (w : World) (hs : Rd w .i64 aS ns s) (hok : okS s) (hm : s.length = m + 1) :
    Calls Try.prog 7 #[.int .u64 seed, .slice aS ns cS] w fun e w' => ∃ v, e = .returned (.tuple #[v, .int .i64 0]) ∧ Ow w' w.heap.size 38 .i64 v (iniP s seed m) ∧ Below w.heap.size w w' := by
  have hns : ns = m + 1 := by rw [← hs.1]; exact hm
  have hm15 : 1 ≤ m ∧ m ≤ 5 := by have := hok.1; have := hok.2.1; omega
  obtain ⟨hm1, hm5⟩ := hm15
  have HCo := Lib.hid (fun w' (hb' : Below w.heap.size w w') => mCount_any aS ns cS s w' (hs.kept hb'))
  have hce : cnt s = ((cntN s : Int), 0) := by unfold cnt; rw [if_pos hok]
  rw [hce] at HCo
  have hcb := cnt_bd hok
  have hcm : cntN s = fst s m := by unfold cntN; rw [hm, Nat.add_sub_cancel]
  obtain ⟨bs, os, rfl, hbs, hc0⟩ := hs.at (i := 0) (by omega)
  have HSz : Hid (∀ l, l ≤ m → w.cell? ⟨bs, os + l, none⟩ = some (.int .i64 (szN s l : Int)) ∧ 1 ≤ szN s l ∧ szN s l ≤ 64) := Lib.hid (fun l hl => by
    obtain ⟨b', o', e', _, hc⟩ := hs.at (i := l) (by omega)
    cases e'
    have h := hok.szv (i := l) (by omega)
    rw [h.1] at hc
    exact ⟨hc, h.2⟩)
  have HFb : Hid (∀ l, l < m → fst s l + szN s (l + 1) * szN s l + szN s (l + 1) ≤ 30000) := Lib.hid (fun l hl => by
    have h1 := fst_succ s l
    have := fst_mono s (i := l + 1) (j := m) (by omega)
    omega)
  subst hns
  obtain ⟨i0, hi0, hz0, hz1, hz2⟩ := eFs1
  have eN : (38 : TypeId) ≠ 49 := by decide
  have eN2 : (49 : TypeId) ≠ 38 := by decide
  clear hs hok hce hcm hc0
  generalize hcn : cntN s = cn at *
  clear hcn
  go_enter Try.func7, Try.ntmps7
  go_wp2_with fail
  ((with_reducible refine (HCo.out _ (by (repeat first | assumption | exact Below.refl _ _ | refine Below.drew ?_ | refine Below.drewN ?_ _ | refine Below.alloc ?_ (by (first | omega | (simp; done) | (simp; omega))) _ | refine Below.setCell ?_ (by (first | omega | (simp; done) | (simp; omega))) _ | refine Below.trans ?_ (Below.mono (by assumption) (by (first | omega | (simp; done) | (simp; omega))))))).mono ?_); rintro e w1 ⟨rfl, rfl⟩)
  go_wp2_with (at_make; refine wpList_make_own _ rfl _ _ 26 rfl w.heap.size 38 i0 (.int .i64 0) 1 eFs.und hi0 hz0 hz1 _ _ _ cn rfl rfl rfl ?b1 ?b2 ?b3 ?_)
  case b1 => rw [hz2]; omega
  case b2 => unfold maxLen; omega
  case b3 => exact Nat.le_refl _
  intro w1 hown hg
  clear hi0 hz0 hz1 hz2
  have Hb1 : Hid (Below w.heap.size w w1) := Lib.hid ⟨hg.os, hg.tape, hg.output, hg.size, fun k hk => hg.block k hk (by simp)⟩
  have Ho1 := Lib.hid hown
  clear hown hg
  have hwm2 : IntKind.i64.wrap ((m : Int) + 1 - 1) = (m : Int) := by rw [IntKind.wrap_i64]; omega
  go_wp2
  have Hkb : Hid (KeyRow (w1.alloc (.cells #[.int .u64 seed, .int .i64 3, .int .i64 0, .int .i64 0] 49)) w.heap.size w1.heap.size seed) := Lib.hid (World.ownsRow_lit (base := w.heap.size) (size := 4) w1 #[.int .u64 seed, .int .i64 3, .int .i64 0, .int .i64 0] 1 Hb1.out.size (by unfold maxLen; omega) rfl)
  have Hb2 : Hid (Below w.heap.size w (w1.alloc (.cells #[.int .u64 seed, .int .i64 3, .int .i64 0, .int .i64 0] 49))) := Lib.hid (Hb1.out.alloc Hb1.out.size _)
  have Ho2 := Lib.hid (Ho1.out.alloc (.cells #[.int .u64 seed, .int .i64 3, .int .i64 0, .int .i64 0] 49))
  generalize w1.heap.size = kb at *
  generalize w1.alloc (.cells #[.int .u64 seed, .int .i64 3, .int .i64 0, .int .i64 0] 49) = W2 at *
  clear Ho1 Hb1 HCo
  have hmi0 : (0 : Int) ≤ (m : Int) := by omega
  go_loopw [8, 29] (fun lv j wr => ∃ l : Nat, l ≤ m ∧ j = .int .i64 l ∧ Hid (wr.ownsRow w.heap.size 38 1 lv (fst s l) ((iniP s seed l).map (Value.int .i64))) ∧ Hid (KeyRow wr w.heap.size kb seed) ∧ Hid (Below w.heap.size w wr)) (fun _ j _ => m - (intOf j).toNat)
  case atStart => exact ⟨0, Nat.zero_le _, rfl, Ho2.out, Hkb.out, Hb2.out⟩
  case round =>
    obtain ⟨l, hl, rfl, hown, hkey, hbb⟩ := hrel
    have hzr := hbb.out.size
    by_cases hlt : l < m
    · obtain ⟨q0, q1, q2⟩ := HSz.out l (by omega)
      obtain ⟨q3, q4, q5⟩ := HSz.out (l + 1) (by omega)
      have d0 : wr.cell? ⟨bs, os + l, none⟩ = some (.int .i64 (szN s l : Int)) := (hbb.out.cell (p := ⟨bs, os + l, none⟩) hbs).trans q0
      have hfb := HFb.out l hlt
      have Hsl : Hid (∀ k, layL s seed l (k + 1) = layL s seed l k ++ [betN seed ((fst s l + k : Nat) : Int) (bN (szN s l))]) := Lib.hid (fun k => layL_succ s seed l k)
      have Hsi : Hid (iniP s seed (l + 1) = iniP s seed l ++ (layL s seed l (szN s (l + 1) * szN s l) ++ List.replicate (szN s (l + 1)) 0)) := Lib.hid (by rw [iniP_succ]; rfl)
      have Hfs : Hid (fst s (l + 1) = fst s l + (szN s (l + 1) * szN s l + szN s (l + 1))) := Lib.hid (fst_succ s l)
      have HR := Lib.hid (fun w => Ratio_any (szN s l) w ⟨q1, q2⟩)
      have hbN := bN_bd ⟨q1, q2⟩
      have HBe := Lib.hid (fun i w (hi : i ≤ 1000000) => Between_any seed i (bN (szN s l)) w hi hbN)
      have Hl0 : Hid (layL s seed l 0 = []) := Lib.hid rfl
      obtain ⟨N, hN⟩ : ∃ N, szN s (l + 1) * szN s l = N := ⟨_, rfl⟩
      have hNi : ((szN s (l + 1) : Nat) : Int) * ((szN s l : Nat) : Int) = (N : Int) := by rw [← hN]; simp
      rw [hN] at hfb Hsi Hfs
      generalize szN s (l + 1) = A at *
      generalize szN s l = C at *
      generalize fst s l = F at *
      generalize bN C = b at *
      have hli0 : (0 : Int) ≤ (l : Int) := by omega
      have hlim : (l : Int) < (m : Int) := by omega
      have hwn : IntKind.i64.wrap (N : Int) = (N : Int) := by rw [IntKind.wrap_i64]; omega
      have hwb : IntKind.i64.wrap (-b) = -b := by rw [IntKind.wrap_i64]; omega
      clear hN
      go_wp2_with fail
      ((with_reducible refine (HR.out _).mono ?_); rintro e w3 ⟨rfl, hb3⟩)
      have d3 : w3.cell? ⟨bs, os + (l + 1), none⟩ = some (.int .i64 (A : Int)) := by
        rw [hb3.cell (p := ⟨bs, os + (l + 1), none⟩) (by show bs < _; omega)]
        exact (hbb.out.cell (p := ⟨bs, os + (l + 1), none⟩) hbs).trans q3
      have Hb3 : Hid (Below w.heap.size w w3) := Lib.hid (hbb.out.trans (hb3.mono hzr))
      have Hown3 := Lib.hid (ownsRow_kept hown.out hb3)
      have Hkey3 : Hid (KeyRow w3 w.heap.size kb seed) := Lib.hid (ownsRow_kept hkey.out hb3)
      clear hb3 hown hkey d0
      have hz3 := Hb3.out.size
      go_wp2
      go_loopw [8, 48] (fun lv j wr' => ∃ k : Nat, k ≤ N ∧ j = .int .i64 k ∧ Hid (wr'.ownsRow w.heap.size 38 1 lv (F + k) ((iniP s seed l ++ layL s seed l k).map (Value.int .i64))) ∧ Hid (KeyRow wr' w.heap.size kb seed) ∧ Hid (Below w.heap.size w wr')) (fun _ j _ => N - (intOf j).toNat)
      case atStart => exact ⟨0, Nat.zero_le _, rfl, Lib.hid (by rw [Hl0.out, List.append_nil]; exact Hown3.out), Hkey3.out, Hb3.out⟩
      case round =>
        rename World => wi
        obtain ⟨k, hk, rfl, hown, hkey, hbi⟩ := hrel
        have hzi := hbi.out.size
        by_cases hltk : k < N
        · have hk0 : (0 : Int) ≤ (k : Int) := by omega
          have hkN : (k : Int) < (N : Int) := by omega
          obtain ⟨k0, k1, k2, k3⟩ := hkey.out.cells
          have HBk := Lib.hid (fun w => HBe.out (F + k) w (by omega))
          have Hslk := Lib.hid (Hsl.out k)
          rw [show ((F + k : Nat) : Int) = (F : Int) + (k : Int) by simp] at HBk Hslk
          unfold keyV at HBk
          obtain ⟨aL, cL, rfl, _, _⟩ := ownsRow_form hown.out
          rw [show ((F + k : Nat)) = F + k from rfl] at hown
          generalize betN seed ((F : Int) + (k : Int)) b = z at *
          go_wp2_with fail
          ((with_reducible refine (HBk.out _).mono ?_); rintro e w5 ⟨rfl, hb5⟩)
          have Hb5 : Hid (Below w.heap.size w w5) := Lib.hid (hbi.out.trans (hb5.mono hzi))
          have hz5 := Hb5.out.size
          have Hown5 := Lib.hid (ownsRow_kept hown.out hb5)
          have Hkey5 : Hid (w5.ownsRow w.heap.size 49 4 (.slice (some ⟨kb, 0, none⟩) 1 1) 1 [.int .u64 seed, .int .i64 3, .int .i64 0, .int .i64 0]) := Lib.hid (ownsRow_kept hkey.out hb5)
          clear hb5 hown hkey k0 k1 k2 k3
          go_wp2_with (at_builtin; refine wpl_app1 eFs rfl _ _ rfl w.heap.size _ (F + k) _ rfl (Hown5.out.alloc _) w5.heap.size (.int .i64 z) rfl (World.cell?_alloc_at _ _ _ _ rfl) rfl ?c3 ?c4 ?c5 ?_)
          case c3 => unfold maxLen; omega
          case c4 => omega
          case c5 => simp; omega
          intro v' w9 hown9 hg9
          have Hb9 := Lib.hid (Below.grownOf (Hb5.out.alloc hz5 _) (Hown5.out.alloc _) hg9 (by simp; omega))
          have Hkey9 : Hid (KeyRow w9 w.heap.size kb seed) := Lib.hid (World.ownsRow.kept (Hkey5.out.alloc (.cells #[.int .i64 z] 38)) hg9 (own_ne (Hkey5.out.alloc (.cells #[.int .i64 z] 38)) (Hown5.out.alloc (.cells #[.int .i64 z] 38)) eN2))
          have Hown9 := Lib.hid hown9
          clear hown9 hg9 Hown5 Hkey5
          go_wp2
          go_roundw
          case rel => exact ⟨k + 1, by omega, by go_num, Lib.hid (by rw [Hslk.out, ← List.append_assoc, ← Nat.add_assoc]; simpa using Hown9.out), Hkey9.out, Hb9.out⟩
          case measure => simp [intOf]; omega
        · obtain rfl : k = N := by omega
          have dA : wi.cell? ⟨bs, os + (l + 1), none⟩ = some (.int .i64 (A : Int)) := (hbi.out.cell (p := ⟨bs, os + (l + 1), none⟩) hbs).trans q3
          go_wp2_with (at_builtin; refine wpl_appZ eFs Try.underlying3 rfl rfl rfl _ _ rfl w.heap.size _ (F + k) _ rfl hown.out A rfl ?z0 ?z1 ?z2 ?z3 ?_)
          case z0 => omega
          case z1 => unfold maxLen; omega
          case z2 => omega
          case z3 => omega
          intro v' w9 hown9 hg9
          have Hb9 := Lib.hid (Below.grownOf hbi.out hown.out hg9 hzi)
          have Hkey9 : Hid (KeyRow w9 w.heap.size kb seed) := Lib.hid (World.ownsRow.kept hkey.out hg9 (own_ne hkey.out hown.out eN2))
          have Hown9 : Hid (w9.ownsRow w.heap.size 38 1 v' (fst s (l + 1)) ((iniP s seed (l + 1)).map (Value.int .i64))) := Lib.hid (by
            rw [Hfs.out, Hsi.out, ← Nat.add_assoc]
            simpa [List.map_replicate] using hown9)
          clear hown9 hg9 hown hkey
          go_wp2
          go_roundw
          case rel => exact ⟨l + 1, by omega, by go_num, Hown9.out, Hkey9.out, Hb9.out⟩
          case measure => simp [intOf]; omega
    · obtain rfl : l = m := by omega
      go_wp2
      go_ret2
      exact ⟨_, rfl, Ow.of hown.out, hbb.out⟩
end Go.Proofs.Ythingodgjeicpaa
