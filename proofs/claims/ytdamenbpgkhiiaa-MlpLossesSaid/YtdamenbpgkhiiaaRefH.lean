/-
  regattaref02: a sum by a power of 2, to the nearest, held.
-/
import Derived.Test.YtdamenbpgkhiiaaRefG
namespace Go.Proofs.Ytdamenbpgkhiiaa
open Go.RowKit
set_option linter.unusedVariables false
set_option linter.unusedSimpArgs false

/-- By 2^k, to the nearest, of two the even one. -/
def rnd (v : Int) (k : Nat) : Int := if hl v k = 1 ∧ (hr v k = 1 ∨ v / 2 ^ k % 2 = 1) then v / 2 ^ k + 1 else v / 2 ^ k
theorem rnd_0 (v : Int) : rnd v 0 = v := by
  unfold rnd
  rw [if_neg (fun h => by have := h.1; simp [hl] at this)]
  simp
theorem rnd_32 (v : Int) : rnd v 32 = rne v 4294967296 := by
  rw [rne32]
  unfold rnd
  rw [hr_eq v 31, show hl v 32 = v / 2 ^ 31 % 2 from rfl, show (2:Int) ^ 31 = 2147483648 by decide, show (2:Int) ^ 32 = 4294967296 by decide]
  by_cases h : v % 2147483648 = 0
  · rw [if_pos h]; simp [h]
  · rw [if_neg h]; simp [h]
theorem rnd_33 (v : Int) : rnd v 33 = rne v 8589934592 := by
  rw [rne33]
  unfold rnd
  rw [hr_eq v 32, show hl v 33 = v / 2 ^ 32 % 2 from rfl, show (2:Int) ^ 32 = 4294967296 by decide, show (2:Int) ^ 33 = 8589934592 by decide]
  by_cases h : v % 4294967296 = 0
  · rw [if_pos h]; simp [h]
  · rw [if_neg h]; simp [h]
theorem sgn_abs (v : Int) : sgn (decide (v < 0)) (absN v) = v := by
  unfold sgn absN
  by_cases h : v < 0 <;> simp [h]
theorem sgn_rne (v d : Int) (hd : 0 < d) : sgn (decide (v < 0)) (rne (absN v) d) = rne v d := by
  unfold sgn absN
  by_cases h : v < 0
  · simp only [h, decide_true, if_true]
    rw [rne_neg v d hd, Int.neg_neg]
  · simp [h]
theorem or01 {r l : Int} (hr : r = 0 ∨ r = 1) (hl : l = 0 ∨ l = 1) : bits .or .u64 r l = if r = 1 ∨ l = 1 then 1 else 0 := by
  rcases hr with rfl | rfl <;> rcases hl with rfl | rfl <;> decide
theorem U192_pow {v : Int} (h : U192 v) (i : Nat) : U192 (v / 2 ^ i) := by
  have hp : (0:Int) < 2 ^ i := Int.pow_pos (by decide)
  have h1 := Int.ediv_nonneg h.1 (Int.le_of_lt hp)
  have h2 := Int.ediv_le_self (2 ^ i) h.1
  unfold U192 at *
  omega
theorem pow_le (v : Int) (h : 0 ≤ v) (i : Nat) : 0 ≤ v / 2 ^ i ∧ v / 2 ^ i ≤ v :=
  ⟨Int.ediv_nonneg h (Int.le_of_lt (Int.pow_pos (by decide))), Int.ediv_le_self (2 ^ i) h⟩

set_option maxHeartbeats 3200000 in
set_option maxRecDepth 100000 in
theorem bRound_any (p n : Int) (k : Nat) (w : World) (hp : U192 p) (hn : U192 n) (hk : k ≤ 64) (hv : absN (p - n) < 3138550867693340381917894711603833208051177722232017256448) :
    Calls Try.prog 71 #[SG p n, .int .i64 k] w fun e w' => e = .returned (.tuple #[.int .i64 (clampI (sgn (decide (p < n)) (rnd (absN (p - n)) k))), .bool (over (sgn (decide (p < n)) (rnd (absN (p - n)) k)))]) ∧ Below w.heap.size w w' := by
  have HW := Lib.hid (fun w => bWhole_any p n w hp hn)
  have hu : U192 (absN (p - n)) := by unfold U192 at hp hn ⊢; unfold absN; split <;> omega
  have hv0 := hu.1
  have HH := Lib.hid (fun i w => bHalf_any (absN (p - n) / 2 ^ i) w (U192_pow hu i))
  have HO : Hid (∀ w, Calls Try.prog 91 #[.int .u64 1, .int .i64 0] w fun e w' => e = .returned (BG 1) ∧ Below w.heap.size w w') := Lib.hid (fun w => bOne0_any 1 w (by decide) (by decide))
  have HP := Lib.hid (fun w => bPlus_any (absN (p - n) / 2 ^ k) 1 w)
  have HC := Lib.hid (fun m w h => bClamp_any (decide (p < n)) m w h)
  have HU1 : Hid (U192 (absN (p - n) / 2 ^ k + 1)) := Lib.hid (by have := pow_le _ hv0 k; unfold U192; omega)
  have HU0 : Hid (U192 (absN (p - n) / 2 ^ k)) := Lib.hid (U192_pow hu k)
  have HSP : Hid (∀ i, absN (p - n) / 2 ^ i / 2 = absN (p - n) / 2 ^ (i + 1)) := Lib.hid (half_p _)
  clear hp hn hv hu hv0
  generalize absN (p - n) = v at *
  generalize decide (p < n) = bl at *
  unfold SG SGc at *
  unfold BG at *
  go_enter Try.func71, Try.ntmps71
  go_wp2_with fail
  (with_reducible refine (HW.out _).mono ?_)
  rintro e w1 ⟨rfl, hb1⟩
  have hz1 := hb1.size
  simp at hz1
  have hb : Hid (Below w.heap.size w (w1.alloc (.cells (BGc v) 145))) := Lib.hid (by (repeat first | assumption | exact Below.refl _ _ | refine Below.drew ?_ | refine Below.drewN ?_ _ | refine Below.alloc ?_ (by (first | omega | (simp; done) | (simp; omega))) _ | refine Below.setCell ?_ (by (first | omega | (simp; done) | (simp; omega))) _ | refine Below.trans ?_ (Below.mono (by assumption) (by (first | omega | (simp; done) | (simp; omega))))))
  have hB : Hid (BGAt (w1.alloc (.cells (BGc v) 145)) w1.heap.size (v / 2 ^ 0)) := Lib.hid (by rw [show v / 2 ^ 0 = v by simp]; exact BGAt.alloc _ _)
  have hgw : w.heap.size ≤ w1.heap.size := by omega
  have hWz : w1.heap.size < (w1.alloc (.cells (BGc v) 145)).heap.size := by simp
  unfold BGc at hb hB hWz
  go_wp2
  generalize hW : w1.alloc (.cells #[.int .u64 (dg v 0), .int .u64 (dg v 1), .int .u64 (dg v 2), .int .u64 (dg v 3), .int .u64 (dg v 4), .int .u64 (dg v 5)] 145) = W at *
  clear hb1 hW
  go_loopw [8, 9, 10] (fun l r j wr => ∃ i : Nat, i ≤ k ∧ j = .int .i64 i ∧ Hid (l = .int .u64 (hl v i)) ∧ Hid (r = .int .u64 (hr v i)) ∧ Hid (BGAt wr w1.heap.size (v / 2 ^ i)) ∧ Hid (Below w.heap.size w wr) ∧ w1.heap.size < wr.heap.size) (fun _ _ j _ => k - (intOf j).toNat)
  case atStart => exact ⟨0, Nat.zero_le _, rfl, Lib.hid rfl, Lib.hid rfl, hB.out, hb.out, hWz⟩
  case round =>
    obtain ⟨i, hi, rfl, hl1, hr1, hBr, hbr, hzr⟩ := hrel
    have e1 := hl1.out
    have e2 := hr1.out
    subst e1
    subst e2
    clear hl1 hr1 hB hb hWz
    by_cases hlt : i < k
    · have HHi := Lib.hid (HH.out i)
      rw [HSP.out i] at HHi
      have hor := or01 (hr_bd v i) (hl_bd v i)
      have hr2 : Hid (hr v (i + 1) = if hr v i = 1 ∨ hl v i = 1 then 1 else 0) := Lib.hid rfl
      rw [← hr2.out] at hor
      have hl2 : Hid (v / 2 ^ i % 2 = hl v (i + 1)) := Lib.hid rfl
      rw [hl2.out] at HHi
      obtain ⟨c0, c1, c2, c3, c4, c5, f0⟩ := hBr.out
      generalize hq1 : hl v (i + 1) = l1 at *
      generalize hq2 : hr v (i + 1) = r1 at *
      generalize hl v i = l0 at *
      generalize hr v i = r0 at *
      generalize v / 2 ^ i = m0 at *
      generalize hq3 : v / 2 ^ (i + 1) = m1 at *
      have Q1 := Lib.hid hq1; have Q2 := Lib.hid hq2; have Q3 := Lib.hid hq3
      clear hq1 hq2 hq3 hr2 hl2
      go_wp2_with fail
      (with_reducible refine (HHi.out _).mono ?_)
      rintro e w5 ⟨rfl, hb5⟩
      have k5 := hBr.out.kept hb5
      have z5 := hb5.size
      have hB6 : Hid (BGAt (set6 w5 w1.heap.size m1) w1.heap.size m1) := Lib.hid (k5.set m1)
      have hb6 : Hid (Below w.heap.size w (set6 w5 w1.heap.size m1)) := Lib.hid (set6_below (by have := hbr.out; (repeat first | assumption | exact Below.refl _ _ | refine Below.drew ?_ | refine Below.drewN ?_ _ | refine Below.alloc ?_ (by (first | omega | (simp; done) | (simp; omega))) _ | refine Below.setCell ?_ (by (first | omega | (simp; done) | (simp; omega))) _ | refine Below.trans ?_ (Below.mono (by assumption) (by (first | omega | (simp; done) | (simp; omega)))))) hgw)
      unfold set6 at hB6 hb6
      clear c0 c1 c2 c3 c4 c5 f0 hb5
      obtain ⟨c0, c1, c2, c3, c4, c5, f0⟩ := k5
      go_wp2
      go_roundw
      case rel => exact ⟨i + 1, by omega, by go_num, Lib.hid (by rw [Q1.out]), Lib.hid (by rw [Q2.out]), Lib.hid (by rw [Q3.out]; exact hB6.out), hb6.out, by simp; omega⟩
      case measure => simp [intOf]; omega
    · obtain rfl : i = k := by omega
      have bb := True.intro
      have hlb := hl_bd v i
      have hrb := hr_bd v i
      have hme : (dg (v / 2 ^ i) 0).tmod 2 = v / 2 ^ i % 2 := by rw [Int.tmod_eq_emod_of_nonneg (dg_bd _ 0).1, dg_even]
      obtain ⟨c0, c1, c2, c3, c4, c5, f0⟩ := hBr.out
      by_cases h1 : hl v i = 1
      · by_cases h2 : hr v i = 1 ∨ v / 2 ^ i % 2 = 1
        · have HR : Hid (rnd v i = v / 2 ^ i + 1) := Lib.hid (by unfold rnd; rw [if_pos ⟨h1, h2⟩])
          rw [h1]
          by_cases h3 : hr v i = 1
          · rw [h3]
            clear h1 h2 h3 hlb hrb hme
            generalize v / 2 ^ i + 1 = m1 at *
            generalize v / 2 ^ i = m0 at *
            clear HSP HH HU0 bb
            go_wp2
            go_region_with (first
              | ((with_reducible refine (HO.out _).mono ?_); rintro e w4 ⟨rfl, hb4⟩; have z4 := hb4.size; (try simp at z4); have k4 := hBr.out.kept (w' := w4) (by (repeat first | assumption | exact Below.refl _ _ | refine Below.drew ?_ | refine Below.drewN ?_ _ | refine Below.alloc ?_ (by (first | omega | (simp; done) | (simp; omega))) _ | refine Below.setCell ?_ (by (first | omega | (simp; done) | (simp; omega))) _ | refine Below.trans ?_ (Below.mono (by assumption) (by (first | omega | (simp; done) | (simp; omega)))))); obtain ⟨_, _, _, _, _, _, f4⟩ := k4)
              | ((with_reducible refine (HP.out _).mono ?_); rintro e w5 ⟨rfl, hb5⟩; have z5 := hb5.size; (try simp at z5); have k5 := hBr.out.kept (w' := w5) (by (repeat first | assumption | exact Below.refl _ _ | refine Below.drew ?_ | refine Below.drewN ?_ _ | refine Below.alloc ?_ (by (first | omega | (simp; done) | (simp; omega))) _ | refine Below.setCell ?_ (by (first | omega | (simp; done) | (simp; omega))) _ | refine Below.trans ?_ (Below.mono (by assumption) (by (first | omega | (simp; done) | (simp; omega)))))); have k5' := k5; obtain ⟨_, _, _, _, _, _, f5⟩ := k5'))
            all_goals
              have hB6 : Hid (BGAt (set6 w5 w1.heap.size m1) w1.heap.size m1) := Lib.hid (k5.set m1)
              have hb6 : Hid (Below w.heap.size w (set6 w5 w1.heap.size m1)) := Lib.hid (set6_below (by have := hbr.out; (repeat first | assumption | exact Below.refl _ _ | refine Below.drew ?_ | refine Below.drewN ?_ _ | refine Below.alloc ?_ (by (first | omega | (simp; done) | (simp; omega))) _ | refine Below.setCell ?_ (by (first | omega | (simp; done) | (simp; omega))) _ | refine Below.trans ?_ (Below.mono (by assumption) (by (first | omega | (simp; done) | (simp; omega)))))) hgw)
              unfold set6 at hB6 hb6
              generalize hW6 : (((((w5.setCell ⟨w1.heap.size, 0, none⟩ (.int .u64 (dg m1 0))).setCell ⟨w1.heap.size, 1, none⟩ (.int .u64 (dg m1 1))).setCell ⟨w1.heap.size, 2, none⟩ (.int .u64 (dg m1 2))).setCell ⟨w1.heap.size, 3, none⟩ (.int .u64 (dg m1 3))).setCell ⟨w1.heap.size, 4, none⟩ (.int .u64 (dg m1 4))).setCell ⟨w1.heap.size, 5, none⟩ (.int .u64 (dg m1 5)) = W6 at *
              clear hW6 hb4 hb5 z4 z5 f4 f5 k5 c0 c1 c2 c3 c4 c5 f0 hBr hbr
              obtain ⟨c0, c1, c2, c3, c4, c5, f0⟩ := hB6.out
              go_wp2_with fail
              (with_reducible refine (HC.out _ _ HU1.out).mono ?_)
              rintro e w7 ⟨rfl, hb7⟩
              have z7 := hb6.out.size
              go_wp2
              go_ret2
              exact ⟨by rw [HR.out]; first | done | rfl, by have := hb6.out; (repeat first | assumption | exact Below.refl _ _ | refine Below.drew ?_ | refine Below.drewN ?_ _ | refine Below.alloc ?_ (by (first | omega | (simp; done) | (simp; omega))) _ | refine Below.setCell ?_ (by (first | omega | (simp; done) | (simp; omega))) _ | refine Below.trans ?_ (Below.mono (by assumption) (by (first | omega | (simp; done) | (simp; omega)))))⟩
          · have h4 : hr v i = 0 := by omega
            have h5 : v / 2 ^ i % 2 = 1 := by omega
            rw [h4]
            rw [h5] at hme
            clear h1 h2 h3 h4 h5 hlb hrb
            generalize v / 2 ^ i + 1 = m1 at *
            generalize v / 2 ^ i = m0 at *
            clear HSP HH HU0 bb
            go_wp2
            go_region_with (first
              | ((with_reducible refine (HO.out _).mono ?_); rintro e w4 ⟨rfl, hb4⟩; have z4 := hb4.size; (try simp at z4); have k4 := hBr.out.kept (w' := w4) (by (repeat first | assumption | exact Below.refl _ _ | refine Below.drew ?_ | refine Below.drewN ?_ _ | refine Below.alloc ?_ (by (first | omega | (simp; done) | (simp; omega))) _ | refine Below.setCell ?_ (by (first | omega | (simp; done) | (simp; omega))) _ | refine Below.trans ?_ (Below.mono (by assumption) (by (first | omega | (simp; done) | (simp; omega)))))); obtain ⟨_, _, _, _, _, _, f4⟩ := k4)
              | ((with_reducible refine (HP.out _).mono ?_); rintro e w5 ⟨rfl, hb5⟩; have z5 := hb5.size; (try simp at z5); have k5 := hBr.out.kept (w' := w5) (by (repeat first | assumption | exact Below.refl _ _ | refine Below.drew ?_ | refine Below.drewN ?_ _ | refine Below.alloc ?_ (by (first | omega | (simp; done) | (simp; omega))) _ | refine Below.setCell ?_ (by (first | omega | (simp; done) | (simp; omega))) _ | refine Below.trans ?_ (Below.mono (by assumption) (by (first | omega | (simp; done) | (simp; omega)))))); have k5' := k5; obtain ⟨_, _, _, _, _, _, f5⟩ := k5'))
            all_goals
              have hB6 : Hid (BGAt (set6 w5 w1.heap.size m1) w1.heap.size m1) := Lib.hid (k5.set m1)
              have hb6 : Hid (Below w.heap.size w (set6 w5 w1.heap.size m1)) := Lib.hid (set6_below (by have := hbr.out; (repeat first | assumption | exact Below.refl _ _ | refine Below.drew ?_ | refine Below.drewN ?_ _ | refine Below.alloc ?_ (by (first | omega | (simp; done) | (simp; omega))) _ | refine Below.setCell ?_ (by (first | omega | (simp; done) | (simp; omega))) _ | refine Below.trans ?_ (Below.mono (by assumption) (by (first | omega | (simp; done) | (simp; omega)))))) hgw)
              unfold set6 at hB6 hb6
              generalize hW6 : (((((w5.setCell ⟨w1.heap.size, 0, none⟩ (.int .u64 (dg m1 0))).setCell ⟨w1.heap.size, 1, none⟩ (.int .u64 (dg m1 1))).setCell ⟨w1.heap.size, 2, none⟩ (.int .u64 (dg m1 2))).setCell ⟨w1.heap.size, 3, none⟩ (.int .u64 (dg m1 3))).setCell ⟨w1.heap.size, 4, none⟩ (.int .u64 (dg m1 4))).setCell ⟨w1.heap.size, 5, none⟩ (.int .u64 (dg m1 5)) = W6 at *
              clear hW6 hb4 hb5 z4 z5 f4 f5 k5 c0 c1 c2 c3 c4 c5 f0 hBr hbr
              obtain ⟨c0, c1, c2, c3, c4, c5, f0⟩ := hB6.out
              go_wp2_with fail
              (with_reducible refine (HC.out _ _ HU1.out).mono ?_)
              rintro e w7 ⟨rfl, hb7⟩
              have z7 := hb6.out.size
              go_wp2
              go_ret2
              exact ⟨by rw [HR.out]; first | done | rfl, by have := hb6.out; (repeat first | assumption | exact Below.refl _ _ | refine Below.drew ?_ | refine Below.drewN ?_ _ | refine Below.alloc ?_ (by (first | omega | (simp; done) | (simp; omega))) _ | refine Below.setCell ?_ (by (first | omega | (simp; done) | (simp; omega))) _ | refine Below.trans ?_ (Below.mono (by assumption) (by (first | omega | (simp; done) | (simp; omega)))))⟩
        · have HR : Hid (rnd v i = v / 2 ^ i) := Lib.hid (by unfold rnd; rw [if_neg (fun h => h2 h.2)])
          have h4 : hr v i = 0 := by omega
          have h5 : v / 2 ^ i % 2 = 0 := by omega
          rw [h1, h4]
          rw [h5] at hme
          clear h1 h2 h4 h5 hlb hrb
          generalize v / 2 ^ i = m0 at *
          clear HSP HH HO HP HU1 bb
          go_wp2_with fail
          (with_reducible refine (HC.out _ _ HU0.out).mono ?_)
          rintro e w6 ⟨rfl, hb6⟩
          go_wp2
          go_ret2
          exact ⟨by rw [HR.out]; first | done | rfl, by have := hbr.out; (repeat first | assumption | exact Below.refl _ _ | refine Below.drew ?_ | refine Below.drewN ?_ _ | refine Below.alloc ?_ (by (first | omega | (simp; done) | (simp; omega))) _ | refine Below.setCell ?_ (by (first | omega | (simp; done) | (simp; omega))) _ | refine Below.trans ?_ (Below.mono (by assumption) (by (first | omega | (simp; done) | (simp; omega)))))⟩
      · have HR : Hid (rnd v i = v / 2 ^ i) := Lib.hid (by unfold rnd; rw [if_neg (fun h => h1 h.1)])
        have h4 : hl v i = 0 := by omega
        rw [h4]
        clear h1 h4 hlb hrb hme
        generalize v / 2 ^ i = m0 at *
        generalize hr v i = r0 at *
        clear HSP HH HO HP HU1 bb
        go_wp2_with fail
        (with_reducible refine (HC.out _ _ HU0.out).mono ?_)
        rintro e w6 ⟨rfl, hb6⟩
        go_wp2
        go_ret2
        exact ⟨by rw [HR.out]; first | done | rfl, by have := hbr.out; (repeat first | assumption | exact Below.refl _ _ | refine Below.drew ?_ | refine Below.drewN ?_ _ | refine Below.alloc ?_ (by (first | omega | (simp; done) | (simp; omega))) _ | refine Below.setCell ?_ (by (first | omega | (simp; done) | (simp; omega))) _ | refine Below.trans ?_ (Below.mono (by assumption) (by (first | omega | (simp; done) | (simp; omega)))))⟩
end Go.Proofs.Ytdamenbpgkhiiaa
