/-
  Layer wide: roots.
-/
import Derived.Test.YtkmfdggodinjaaaWideB
import Derived.Test.YtkmfdggodinjaaaLongA
import Derived.Test.YtkmfdggodinjaaaBits
namespace Go.Proofs.Ytkmfdggodinjaaa
open Go.RowKit
set_option linter.unusedVariables false
set_option linter.unusedSimpArgs false

theorem two_pow_posR (e : Nat) : (0 : Int) < 2 ^ e := Int.pow_pos (by omega)

theorem lt63 (r p : Int) (h : r + p * 2 ≤ 9223372036854775808) (hp : 0 < p) : r + p ≤ 9223372036854775807 := by omega
theorem sq_bd {t : Int} (h0 : 0 ≤ t) (h : t ≤ 9223372036854775807) : 0 ≤ t * t ∧ t * t ≤ 85070591730234615847396907784232501249 := ⟨Int.mul_nonneg h0 h0, Int.mul_le_mul h h h0 (by omega)⟩
theorem pw (s : Nat) : ((2 ^ (s + 1) : Nat) : Int) = 2 ^ s * 2 := by
  rw [Nat.pow_succ]
  simp
theorem or_pow (r : Int) (s : Nat) (hs62 : s ≤ 62) (r0 : 0 ≤ r) (hp0 : (0:Int) < 2 ^ s) (hpm : (2 : Int) ^ s ≤ 4611686018427387904) (r1 : r % (2 ^ s * 2) = 0) (r2 : r + 2 ^ s * 2 ≤ 9223372036854775808) :
   bits BinOp.or IntKind.i64 r (2 ^ s) = r + 2 ^ s := by
  rw [or_add_i64 (s + 1) ?_ (by omega) (by omega) ?_ (by omega)]
  · unfold wrap64; omega
  · rw [show r % 18446744073709551616 = r by omega]
    have h9 : ((r.toNat % 2 ^ (s + 1) : Nat) : Int) = 0 := by
      rw [Int.natCast_emod, Int.toNat_of_nonneg r0, pw]
      exact r1
    exact Int.ofNat.inj h9
  · have h9 : (((2 : Int) ^ s).toNat : Int) = 2 ^ s := Int.toNat_of_nonneg (by omega)
    have h8 := pw s
    have h7 : (((2 : Int) ^ s).toNat : Int) < ((2 ^ (s + 1) : Nat) : Int) := by rw [h8, h9]; omega
    exact Int.ofNat_lt.1 h7

set_option maxHeartbeats 3200000 in
set_option maxRecDepth 100000 in
theorem Root_any (v : Int) (w : World) (h0 : 0 ≤ v) (h1 : v < 85070591730234615865843651857942052864) :
    Calls Try.prog 57 #[LG v] w fun e w' => ∃ r : Int, e = .returned (.tuple #[.int .i64 r, .bool false]) ∧ 0 ≤ r ∧ r * r ≤ v ∧ v < (r + 1) * (r + 1) ∧ Below w.heap.size w w' := by
  have HO := Lib.hid (fun w => open_any v w)
  have HB := Lib.hid (fun w => below_any v w)
  have e2 : x2 v = 0 := by unfold x2; omega
  have e2s : x2s v = 0 := by unfold x2s wrap64; omega
  rw [e2s, show decide ((0 : Int) < 0) = false by decide] at HB
  have eh := Lib.hid (show whi v = x1 v by unfold x1 whi wrap64; omega)
  have hx1 : 0 ≤ x1 v ∧ x1 v < 4611686018427387904 := by unfold x1; omega
  unfold WV at *
  rw [e2] at HO HB
  unfold LG at *
  rw [e2s] at HO
  rw [e2s]
  go_enter Try.func57, Try.ntmps57
  go_wp2_with fail
  ((with_reducible refine (HO.out _).mono ?_); rintro e w1 ⟨rfl, hb1⟩)
  have hz1 := hb1.size
  have Hb1 : Hid (Below w.heap.size w w1) := Lib.hid (by (repeat first | assumption | exact Below.refl _ _ | refine Below.drew ?_ | refine Below.drewN ?_ _ | refine Below.alloc ?_ (by (first | omega | (simp; done) | (simp; omega))) _ | refine Below.setCell ?_ (by (first | omega | (simp; done) | (simp; omega))) _ | refine Below.trans ?_ (Below.mono (by assumption) (by (first | omega | (simp; done) | (simp; omega))))))
  (try simp at hz1)
  clear hb1
  go_wp2_with fail
  ((with_reducible refine (HB.out _).mono ?_); rintro e w2 ⟨rfl, hb2⟩)
  have hz2 := hb2.size
  obtain ⟨hc2, hf2⟩ := bcell hb2
  (try simp at hz2 hc2 hf2)
  have g0 : w2.cell? ⟨w1.heap.size, 0, none⟩ = some (.int .u64 (x0 v)) := by rw [hc2 _ _ (by omega)]; go_simp
  have g1 : w2.cell? ⟨w1.heap.size, 1, none⟩ = some (.int .u64 (x1 v)) := by rw [hc2 _ _ (by omega)]; go_simp
  have g2 : w2.cell? ⟨w1.heap.size, 2, none⟩ = some (.int .u64 0) := by rw [hc2 _ _ (by omega)]; go_simp
  have Hb2 : Hid (Below w.heap.size w w2) := Lib.hid (by have := Hb1.out; (repeat first | assumption | exact Below.refl _ _ | refine Below.drew ?_ | refine Below.drewN ?_ _ | refine Below.alloc ?_ (by (first | omega | (simp; done) | (simp; omega))) _ | refine Below.setCell ?_ (by (first | omega | (simp; done) | (simp; omega))) _ | refine Below.trans ?_ (Below.mono (by assumption) (by (first | omega | (simp; done) | (simp; omega))))))
  clear hb2 hc2 hf2 HO HB
  have hx1' : ¬ (4611686018427387904 ≤ x1 v) := by omega
  go_wp2
  have HM := Lib.hid (fun t w (ht : I64 t) => Mul_any t t w ht ht)
  have HC := Lib.hid (fun t w (ht : I128 t) => Cmp_any t v w ht (by unfold I128; omega))
  unfold W at HM HC
  rw [show wlo v = x0 v from rfl, eh.out] at HC
  have Hb3 : Hid (Below w.heap.size w (w2.alloc (.cells #[.int .i64 (x1 v), .int .u64 (x0 v)] 102))) := Lib.hid (Hb2.out.alloc Hb2.out.size _)
  have q0 : Hid ((w2.alloc (.cells #[.int .i64 (x1 v), .int .u64 (x0 v)] 102)).cell? ⟨w2.heap.size, 0, none⟩ = some (.int .i64 (x1 v))) := Lib.hid (World.cell?_alloc_at _ _ _ _ rfl)
  have q1 : Hid ((w2.alloc (.cells #[.int .i64 (x1 v), .int .u64 (x0 v)] 102)).cell? ⟨w2.heap.size, 1, none⟩ = some (.int .u64 (x0 v))) := Lib.hid (World.cell?_alloc_at _ _ _ _ rfl)
  generalize hgm : w2.heap.size = gm at *
  generalize w2.alloc (.cells #[.int .i64 (x1 v), .int .u64 (x0 v)] 102) = W3 at *
  clear g0 g1 g2 hgm Hb1 Hb2
  go_loopw [6, 27] (fun rv iv wr => ∃ (i : Nat) (r : Int), i ≤ 63 ∧ iv = .int .i64 i ∧ rv = .int .i64 r ∧ 0 ≤ r ∧ r % 2 ^ (63 - i) = 0 ∧ r + 2 ^ (63 - i) ≤ 9223372036854775808 ∧ r * r ≤ v ∧ v < (r + 2 ^ (63 - i)) * (r + 2 ^ (63 - i)) ∧ Hid (wr.cell? ⟨gm, 0, none⟩ = some (.int .i64 (x1 v))) ∧ Hid (wr.cell? ⟨gm, 1, none⟩ = some (.int .u64 (x0 v))) ∧ Hid (Below w.heap.size w wr)) (fun _ iv _ => 63 - (intOf iv).toNat)
  case atStart => exact ⟨0, 0, by omega, rfl, rfl, by omega, by decide, by decide, by omega, by simpa using h1, q0, q1, Hb3⟩
  case round =>
    obtain ⟨i, r, hi, rfl, rfl, r0, r1, r2, r3, r4, hq0, hq1, hbb⟩ := hrel
    by_cases hlt : i < 63
    · obtain ⟨s, hs⟩ : ∃ s, s = 62 - i := ⟨_, rfl⟩
      have hs62 : s ≤ 62 := by omega
      have e63 : 63 - i = s + 1 := by omega
      rw [e63, Int.pow_succ] at r1 r2 r4
      have R4 := Lib.hid r4
      have R3 := Lib.hid r3
      clear r3 r4
      have hsi : (62 : Int) - (i : Int) = (s : Int) := by omega
      have hp0 := two_pow_posR s
      have hwi : IntKind.i64.wrap (62 - (i : Int)) = (s : Int) := by rw [hsi, IntKind.wrap_i64]; omega
      have hpm : (2 : Int) ^ s ≤ 4611686018427387904 := by omega
      have hi0 : (0 : Int) ≤ (i : Int) := by omega
      have hi63 : (i : Int) < 63 := by omega
      have hs0 : (0 : Int) ≤ (s : Int) := by omega
      have hw2 : wrap64 (2 ^ (62 - i)) = 2 ^ s := by rw [← hs]; unfold wrap64; omega
      have ht63 : r + 2 ^ s ≤ 9223372036854775807 := lt63 r (2 ^ s) r2 hp0
      have hor : bits BinOp.or IntKind.i64 r (wrap64 (2 ^ (62 - i))) = r + 2 ^ s := by
        rw [hw2]
        exact or_pow r s hs62 r0 hp0 hpm r1 r2
      clear hw2 hwi
      have HMt := Lib.hid (fun w => HM.out (r + 2 ^ s) w (by unfold I64; omega))
      have hsq := sq_bd (show 0 ≤ r + 2 ^ s by omega) ht63
      have HCt := Lib.hid (fun w => HC.out ((r + 2 ^ s) * (r + 2 ^ s)) w (by unfold I128; exact ⟨Int.le_trans (by omega) hsq.1, Int.lt_of_le_of_lt hsq.2 (by omega)⟩))
      have hmod : r % 2 ^ s = 0 := by
        have h9 := Int.mul_ediv_add_emod r (2 ^ s * 2)
        rw [r1, Int.add_zero, Int.mul_assoc] at h9
        rw [← h9, Int.mul_emod_right]
      have hgl : gm < wr.heap.size := World.block_lt_of_cell? _ _ hq0.out
      have hzr := hbb.out.size
      have u0 := hq0.out
      have u1 := hq1.out
      have e62' : (2 : Int) ^ (63 - (i + 1)) = 2 ^ s := by rw [show 63 - (i + 1) = s by omega]
      generalize (2 : Int) ^ s = p at *
      clear r1 hsq HM HC
      have R2 := Lib.hid r2
      obtain ⟨t, ht⟩ : ∃ t, r + p = t := ⟨_, rfl⟩
      rw [ht] at hor HMt HCt ht63
      have HT := Lib.hid ht
      have hwt : wrap64 t = t := by unfold wrap64; omega
      clear ht
      by_cases hc : t * t ≤ v
      · have hcmp : cmpI (t * t) v ≤ 0 := by unfold cmpI; split <;> (try split) <;> omega
        have Hc := Lib.hid hc
        have HV : Hid (v < (t + p) * (t + p)) := Lib.hid (by rw [← HT.out, show r + p + p = r + p * 2 by omega]; exact R4.out)
        have HM2 : Hid (t % p = 0) := Lib.hid (by rw [← HT.out, Int.add_emod_right]; exact hmod)
        clear hc hmod
        generalize ht2 : t * t = t2 at *
        have HT2 := Lib.hid ht2
        clear ht2
        go_wp2
        go_region_with (first
          | ((with_reducible refine (HMt.out _).mono ?_); rintro e w5 ⟨rfl, hb5⟩; have z5 := hb5.size; (try simp at z5); have p50 : w5.cell? ⟨gm, 0, none⟩ = some (.int .i64 (x1 v)) := (hb5.cell (p := ⟨gm, 0, none⟩) (by first | exact hgl | (show gm < _; omega))).trans (by first | assumption | (go_simp)); have p51 : w5.cell? ⟨gm, 1, none⟩ = some (.int .u64 (x0 v)) := (hb5.cell (p := ⟨gm, 1, none⟩) (by first | exact hgl | (show gm < _; omega))).trans (by first | assumption | (go_simp)))
          | ((with_reducible refine (HCt.out _).mono ?_); rintro e w6 ⟨rfl, hb6⟩; have z6 := hb6.size))
        all_goals
          have Hb6 : Hid (Below wr.heap.size wr w6) := Lib.hid (by (repeat first | assumption | exact Below.refl _ _ | refine Below.drew ?_ | refine Below.drewN ?_ _ | refine Below.alloc ?_ (by (first | omega | (simp; done) | (simp; omega))) _ | refine Below.setCell ?_ (by (first | omega | (simp; done) | (simp; omega))) _ | refine Below.trans ?_ (Below.mono (by assumption) (by (first | omega | (simp; done) | (simp; omega))))))
          have q60 : Hid (w6.cell? ⟨gm, 0, none⟩ = some (.int .i64 (x1 v))) := Lib.hid ((Hb6.out.cell (p := ⟨gm, 0, none⟩) hgl).trans u0)
          have q61 : Hid (w6.cell? ⟨gm, 1, none⟩ = some (.int .u64 (x0 v))) := Lib.hid ((Hb6.out.cell (p := ⟨gm, 1, none⟩) hgl).trans u1)
          clear hb5 hb6 p50 p51 u0 u1
          go_wp2
          go_roundw
          case rel => exact ⟨i + 1, t, by omega, by go_num, rfl, by have := HT.out; omega, by rw [e62']; exact HM2.out, by rw [e62']; have := R2.out; have := HT.out; omega, by rw [HT2.out]; exact Hc.out, by rw [e62']; exact HV.out, q60, q61, Lib.hid (hbb.out.trans (Hb6.out.mono hzr))⟩
          case measure => first | (simp [intOf]; done) | (simp [intOf]; omega)
      · have hcmp : ¬ cmpI (t * t) v ≤ 0 := by unfold cmpI; rw [if_neg (by omega), if_neg (by omega)]; omega
        have HV : Hid (v < (r + p) * (r + p)) := Lib.hid (by rw [HT.out]; omega)
        have HM2 : Hid (r % p = 0) := Lib.hid hmod
        clear hc hmod
        generalize t * t = t2 at *
        go_wp2
        go_region_with (first
          | ((with_reducible refine (HMt.out _).mono ?_); rintro e w5 ⟨rfl, hb5⟩; have z5 := hb5.size; (try simp at z5); have p50 : w5.cell? ⟨gm, 0, none⟩ = some (.int .i64 (x1 v)) := (hb5.cell (p := ⟨gm, 0, none⟩) (by first | exact hgl | (show gm < _; omega))).trans (by first | assumption | (go_simp)); have p51 : w5.cell? ⟨gm, 1, none⟩ = some (.int .u64 (x0 v)) := (hb5.cell (p := ⟨gm, 1, none⟩) (by first | exact hgl | (show gm < _; omega))).trans (by first | assumption | (go_simp)))
          | ((with_reducible refine (HCt.out _).mono ?_); rintro e w6 ⟨rfl, hb6⟩; have z6 := hb6.size))
        all_goals
          have Hb6 : Hid (Below wr.heap.size wr w6) := Lib.hid (by (repeat first | assumption | exact Below.refl _ _ | refine Below.drew ?_ | refine Below.drewN ?_ _ | refine Below.alloc ?_ (by (first | omega | (simp; done) | (simp; omega))) _ | refine Below.setCell ?_ (by (first | omega | (simp; done) | (simp; omega))) _ | refine Below.trans ?_ (Below.mono (by assumption) (by (first | omega | (simp; done) | (simp; omega))))))
          have q60 : Hid (w6.cell? ⟨gm, 0, none⟩ = some (.int .i64 (x1 v))) := Lib.hid ((Hb6.out.cell (p := ⟨gm, 0, none⟩) hgl).trans u0)
          have q61 : Hid (w6.cell? ⟨gm, 1, none⟩ = some (.int .u64 (x0 v))) := Lib.hid ((Hb6.out.cell (p := ⟨gm, 1, none⟩) hgl).trans u1)
          clear hb5 hb6 p50 p51 u0 u1
          go_wp2
          go_roundw
          case rel => exact ⟨i + 1, r, by omega, by go_num, rfl, r0, by rw [e62']; exact HM2.out, by rw [e62']; have := R2.out; omega, R3.out, by rw [e62']; exact HV.out, q60, q61, Lib.hid (hbb.out.trans (Hb6.out.mono hzr))⟩
          case measure => first | (simp [intOf]; done) | (simp [intOf]; omega)
    · obtain rfl : i = 63 := by omega
      rw [Nat.sub_self, Int.pow_zero] at r4
      have R3 := Lib.hid r3
      have R4 := Lib.hid r4
      clear r3 r4 r1 r2
      go_wp2
      go_ret2
      exact ⟨r, rfl, r0, R3.out, R4.out, hbb.out⟩
end Go.Proofs.Ytkmfdggodinjaaa
