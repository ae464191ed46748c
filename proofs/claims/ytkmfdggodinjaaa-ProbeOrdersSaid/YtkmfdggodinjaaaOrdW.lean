/-
  The walk of regattalaw29.ProbeOrders.
-/
import Derived.Test.YtkmfdggodinjaaaSprD
import Derived.Test.YtkmfdggodinjaaaSrtB
import Derived.Test.YtkmfdggodinjaaaHisW
namespace Go.Proofs.Ytkmfdggodinjaaa
open Go.RowKit
set_option linter.unusedVariables false
set_option linter.unusedSimpArgs false

/-- The place of x in 1000 among n. -/
theorem place_ex {n : Nat} {x : Int} (h0 : 0 < n) (h1 : 0 ≤ x) (h2 : x ≤ 1000) : ∃ k : Nat, (x * ((n : Int) - 1)).tdiv 1000 = (k : Int) ∧ k < n := by
  have hp : 0 ≤ x * ((n : Int) - 1) := Int.mul_nonneg (by omega) (by omega)
  have hq : x * ((n : Int) - 1) ≤ 1000 * ((n : Int) - 1) := Int.mul_le_mul_of_nonneg_right h2 (by omega)
  refine ⟨(x * ((n : Int) - 1) / 1000).toNat, ?_, ?_⟩
  · rw [Int.tdiv_eq_ediv_of_nonneg hp, Int.toNat_of_nonneg (by omega)]
  · omega
theorem place_mono {n : Nat} {x y : Int} {k m : Nat} (h0 : 0 < n) (h1 : 0 ≤ x) (h2 : x ≤ y) (hk : (x * ((n : Int) - 1)).tdiv 1000 = (k : Int)) (hm : (y * ((n : Int) - 1)).tdiv 1000 = (m : Int)) : k ≤ m := by
  have hp : 0 ≤ x * ((n : Int) - 1) := Int.mul_nonneg (by omega) (by omega)
  have hq : x * ((n : Int) - 1) ≤ y * ((n : Int) - 1) := Int.mul_le_mul_of_nonneg_right h2 (by omega)
  rw [Int.tdiv_eq_ediv_of_nonneg hp] at hk
  rw [Int.tdiv_eq_ediv_of_nonneg (by omega)] at hm
  omega
theorem take_in {l : List Int} {x : Int} {i : Nat} (hi : i < l.length) : x ∈ l.take (i + 1) ↔ x ∈ l.take i ∨ l[i]?.getD 0 = x := by
  rw [List.take_succ_eq_append_getElem hi, List.getElem?_eq_getElem hi]
  rw [List.mem_append, List.mem_singleton, Option.getD_some]
  exact or_congr Iff.rfl ⟨fun h => h.symm, fun h => h.symm⟩

set_option maxHeartbeats 4000000 in
set_option maxRecDepth 100000 in
theorem orders_walk (a : Option Addr) (n c : Nat) (l : List Int) (x y : Int) (w : World) (hL : InRowP w a n c l) (ix : I64 x) (iy : I64 y) :
    Calls Try.prog 6 #[.slice a n c, .int .i64 x, .int .i64 y] w fun e w' => e = .returned (.bool true) ∧ Below w.heap.size w w' := by
  have hnm : n ≤ 9223372036854775807 := by have := hL.nc; have := hL.cm; omega
  have HAw := Lib.hid (fun w => awake_any w)
  by_cases hbad : (n : Int) < 1 ∨ ¬ (n : Int) < 1 ∧ (300 : Int) < n ∨ ¬ (n : Int) < 1 ∧ ¬ (300 : Int) < n ∧ x < 0 ∨ ¬ (n : Int) < 1 ∧ ¬ (300 : Int) < n ∧ ¬ x < 0 ∧ y < x ∨ ¬ (n : Int) < 1 ∧ ¬ (300 : Int) < n ∧ ¬ x < 0 ∧ ¬ y < x ∧ 1000 < y
  · clear hL
    rcases hbad with k1 | ⟨k1, k2⟩ | ⟨k1, k2, k3⟩ | ⟨k1, k2, k3, k4⟩ | ⟨k1, k2, k3, k4, k5⟩
    all_goals
      go_enter Try.func6, Try.ntmps6
      go_wp2_with fail
      ((with_reducible refine (HAw.out _).mono ?_); rintro e w1 ⟨rfl, hb1⟩)
      have Hb1 := Lib.hid hb1
      clear hb1
      go_wp2
      go_ret
      exact ⟨rfl, Hb1.out⟩
  · have n0 : 0 < n := by omega
    have n3 : n ≤ 300 := by omega
    have x0 : 0 ≤ x := by omega
    have xy : x ≤ y := by omega
    have y1 : y ≤ 1000 := by omega
    have hr := hL.rd (by omega)
    have hln : l.length = n := hr.1
    obtain ⟨kx, hkx, hkxn⟩ := place_ex (x := x) n0 x0 (by omega)
    obtain ⟨ky, hky, hkyn⟩ := place_ex (x := y) n0 (by omega) y1
    have hkxy := place_mono n0 x0 xy hkx hky
    have hk1 : ((1000 : Int) * ((n : Int) - 1)).tdiv 1000 = ((n - 1 : Nat) : Int) := by rw [Int.tdiv_eq_ediv_of_nonneg (by omega)]; omega
    have hk0 : ((0 : Int) * ((n : Int) - 1)).tdiv 1000 = ((0 : Nat) : Int) := by simp
    have HQ0 := Lib.hid (fun w' (hb : Below w.heap.size w w') => Quantile_any a n c l 0 1000 0 w' (hr.kept hb) hL.nil n0 n3 (by omega) (by omega) (by omega) (by omega) hk0 (by omega))
    have HQ1 := Lib.hid (fun w' (hb : Below w.heap.size w w') => Quantile_any a n c l 1000 1000 (n - 1) w' (hr.kept hb) hL.nil n0 n3 (by omega) (by omega) (by omega) (by omega) hk1 (by omega))
    have HQx := Lib.hid (fun w' (hb : Below w.heap.size w w') => Quantile_any a n c l x 1000 kx w' (hr.kept hb) hL.nil n0 n3 (by omega) (by omega) (by omega) (by omega) hkx hkxn)
    have HQy := Lib.hid (fun w' (hb : Below w.heap.size w w') => Quantile_any a n c l y 1000 ky w' (hr.kept hb) hL.nil n0 n3 (by omega) (by omega) (by omega) (by omega) hky hkyn)
    have Hr := Lib.hid (fun w' (hb : Below w.heap.size w w') => hr.kept hb)
    have Hle : Hid (∀ i : Nat, i < n → (sortI l)[0]?.getD 0 ≤ l[i]?.getD 0 ∧ l[i]?.getD 0 ≤ (sortI l)[n - 1]?.getD 0) := Lib.hid (fun i hi => by rw [← hln]; exact sortI_least (by omega))
    have hXY : (sortI l)[kx]?.getD 0 ≤ (sortI l)[ky]?.getD 0 := sortI_getD_mono (by omega) hkxy
    have Hin : Hid ((sortI l)[kx]?.getD 0 ∈ l) := Lib.hid (by
      obtain ⟨i, hi, e⟩ := sortI_in (l := l) (k := kx) (by omega)
      rw [← e, List.getElem?_eq_getElem hi]
      exact List.getElem_mem hi)
    have Hll : Hid (l.length = n) := Lib.hid hln
    clear hL hr hkx hky hkxy hk1 hk0 hkxn hkyn hln ix iy
    generalize (sortI l)[0]?.getD 0 = L0 at *
    generalize (sortI l)[n - 1]?.getD 0 = M0 at *
    generalize (sortI l)[kx]?.getD 0 = X0 at *
    generalize (sortI l)[ky]?.getD 0 = Y0 at *
    have hXY' : ¬ Y0 < X0 := by omega
    go_enter Try.func6, Try.ntmps6
    go_wp2_with fail
    ((with_reducible refine (HAw.out _).mono ?_); rintro e w1 ⟨rfl, hb1⟩)
    have Hb1 := Lib.hid hb1
    clear hb1 HAw
    go_wp2_with fail
    ((with_reducible refine (HQ0.out _ Hb1.out).mono ?_); rintro e w2 ⟨rfl, hb2⟩)
    have Hb2 := Lib.hid (Hb1.out.trans (hb2.mono Hb1.out.size))
    clear hb2
    go_wp2_with fail
    ((with_reducible refine (HQ1.out _ Hb2.out).mono ?_); rintro e w3 ⟨rfl, hb3⟩)
    have Hb3 := Lib.hid (Hb2.out.trans (hb3.mono Hb2.out.size))
    clear hb3
    go_wp2_with fail
    ((with_reducible refine (HQx.out _ Hb3.out).mono ?_); rintro e w4 ⟨rfl, hb4⟩)
    have Hb4 := Lib.hid (Hb3.out.trans (hb4.mono Hb3.out.size))
    clear hb4
    go_wp2_with fail
    ((with_reducible refine (HQy.out _ Hb4.out).mono ?_); rintro e w5 ⟨rfl, hb5⟩)
    have Hb5 := Lib.hid (Hb4.out.trans (hb5.mono Hb4.out.size))
    clear hb5
    go_wp2
    go_loopw [15, 84] (fun tv jv wr => ∃ k : Nat, ∃ b : Bool, k ≤ n ∧ jv = .int .i64 k ∧ tv = .bool b ∧ Hid (b = true ↔ X0 ∈ l.take k) ∧ Hid (w5 = wr)) (fun _ jv _ => n - (intOf jv).toNat)
    case atStart => exact ⟨0, false, Nat.zero_le _, rfl, rfl, Lib.hid (by simp), rfl⟩
    case round =>
      obtain ⟨k, b, hk, rfl, rfl, hbX, hwr⟩ := hrel
      obtain rfl := hwr.out
      by_cases hlt : k < n
      · obtain ⟨ba, oa, rfl, hba, hca⟩ := (Hr.out _ Hb5.out).at hlt
        obtain ⟨hz1, hz2⟩ := Hle.out k hlt
        have Hti := Lib.hid (take_in (l := l) (x := X0) (i := k) (by rw [Hll.out]; exact hlt))
        have hk0 : (0 : Int) ≤ (k : Int) := by omega
        have hkn : (k : Int) < (n : Int) := by omega
        generalize l[k]?.getD 0 = z at *
        have hz1' : ¬ z < L0 := by omega
        have hz2' : ¬ M0 < z := by omega
        cases b with
        | true =>
          go_wp2
          go_roundw
          case rel => exact ⟨k + 1, true, by omega, by go_num, rfl, Lib.hid (by have := hbX.out; have := Hti.out; simp_all), Lib.hid (by first | rfl | trivial)⟩
          case measure => first | (simp [intOf]; done) | (simp [intOf]; omega)
        | false =>
          by_cases hzx : z = X0
          · subst hzx
            go_wp2
            go_roundw
            case rel => exact ⟨k + 1, true, by omega, by go_num, by simp, Lib.hid (by have := Hti.out; simp_all), Lib.hid (by first | rfl | trivial)⟩
            case measure => first | (simp [intOf]; done) | (simp [intOf]; omega)
          · go_wp2
            go_roundw
            case rel => exact ⟨k + 1, false, by omega, by go_num, by simp [hzx], Lib.hid (by have := hbX.out; have := Hti.out; simp_all), Lib.hid (by first | rfl | trivial)⟩
            case measure => first | (simp [intOf]; done) | (simp [intOf]; omega)
      · obtain rfl : k = n := by omega
        have hbt : b = true := hbX.out.2 (by rw [List.take_of_length_le (by rw [Hll.out]; exact Nat.le_refl _)]; exact Hin.out)
        subst hbt
        go_wp2
        go_ret
        exact ⟨rfl, Hb5.out⟩
end Go.Proofs.Ytkmfdggodinjaaa
