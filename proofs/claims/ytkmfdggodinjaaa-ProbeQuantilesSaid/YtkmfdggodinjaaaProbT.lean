/-
  Layer probe: products by adding; the bin of a number. regattaref06.Same.
-/
import Derived.Test.YtkmfdggodinjaaaMeanA
import Derived.Test.YtkmfdggodinjaaaRegW
namespace Go.Proofs.Ytkmfdggodinjaaa
open Go.RowKit
set_option linter.unusedVariables false
set_option linter.unusedSimpArgs false

theorem WAt.far {w : World} {g k i : Nat} {v : Int} {x : Value} (h : WAt w k v) (hk : g ≠ k) : WAt (w.setCell ⟨g, i, none⟩ x) k v :=
  ⟨(World.cell?_setCell_far _ _ _ _ hk).trans h.c0, (World.cell?_setCell_far _ _ _ _ hk).trans h.c1, fun j => by have := h.f j; go_simp⟩
theorem WAt.lay (w : World) (v : Int) : WAt (w.alloc (.cells #[.int .i64 (whi v), .int .u64 (wlo v)] 102)) w.heap.size v := ⟨World.cell?_alloc_at _ _ _ _ rfl, World.cell?_alloc_at _ _ _ _ rfl, fun i => by go_simp⟩

set_option maxHeartbeats 1600000 in
set_option maxRecDepth 20000 in
theorem times_any (v : Int) (k : Nat) (w : World) (hk : k ≤ 65536) :
    Calls Try.prog 49 #[W v, .int .i64 k] w fun e w' => e = .returned (W (v * k)) ∧ Below w.heap.size w w' := by
  have Hmul : Hid (∀ i : Nat, v * ((i : Nat) : Int) + v = v * (((i + 1 : Nat)) : Int)) := Lib.hid (fun i => by rw [show (((i + 1 : Nat)) : Int) = (i : Int) + 1 by simp, Int.mul_add, Int.mul_one])
  unfold W
  go_enter Try.func49, Try.ntmps49
  go_wp2
  have hA : Hid (WAt (((w.alloc (.cells #[.int .i64 (whi v), .int .u64 (wlo v)] 102)).alloc (.cells #[.int .i64 0, .int .u64 0] 102)).alloc (.cells #[.int .i64 0, .int .u64 0] 102)) w.heap.size v) := Lib.hid ((WAt.lay w v).kept (by (repeat first | assumption | exact Below.refl _ _ | refine Below.drew ?_ | refine Below.drewN ?_ _ | refine Below.alloc ?_ (by (first | omega | (simp; done) | (simp; omega))) _ | refine Below.setCell ?_ (by (first | omega | (simp; done) | (simp; omega))) _ | refine Below.trans ?_ (Below.mono (by assumption) (by (first | omega | (simp; done) | (simp; omega)))))))
  have hR : Hid (WAt (((w.alloc (.cells #[.int .i64 (whi v), .int .u64 (wlo v)] 102)).alloc (.cells #[.int .i64 0, .int .u64 0] 102)).alloc (.cells #[.int .i64 0, .int .u64 0] 102)) (w.heap.size + 1) 0) := Lib.hid (by
    have h := (WAt.zero (w.alloc (.cells #[.int .i64 (whi v), .int .u64 (wlo v)] 102))).kept (w' := (((w.alloc (.cells #[.int .i64 (whi v), .int .u64 (wlo v)] 102)).alloc (.cells #[.int .i64 0, .int .u64 0] 102)).alloc (.cells #[.int .i64 0, .int .u64 0] 102))) (by (repeat first | assumption | exact Below.refl _ _ | refine Below.drew ?_ | refine Below.drewN ?_ _ | refine Below.alloc ?_ (by (first | omega | (simp; done) | (simp; omega))) _ | refine Below.setCell ?_ (by (first | omega | (simp; done) | (simp; omega))) _ | refine Below.trans ?_ (Below.mono (by assumption) (by (first | omega | (simp; done) | (simp; omega))))))
    rw [show (w.alloc (.cells #[.int .i64 (whi v), .int .u64 (wlo v)] 102)).heap.size = w.heap.size + 1 by simp] at h
    exact h)
  have hT : Hid (WAt (((w.alloc (.cells #[.int .i64 (whi v), .int .u64 (wlo v)] 102)).alloc (.cells #[.int .i64 0, .int .u64 0] 102)).alloc (.cells #[.int .i64 0, .int .u64 0] 102)) (w.heap.size + 2) (v * ((0 : Nat) : Int))) := Lib.hid (by
    have h := WAt.zero ((w.alloc (.cells #[.int .i64 (whi v), .int .u64 (wlo v)] 102)).alloc (.cells #[.int .i64 0, .int .u64 0] 102))
    rw [show ((w.alloc (.cells #[.int .i64 (whi v), .int .u64 (wlo v)] 102)).alloc (.cells #[.int .i64 0, .int .u64 0] 102)).heap.size = w.heap.size + 2 by simp] at h
    simpa using h)
  have hb0 : Hid (Below w.heap.size w (((w.alloc (.cells #[.int .i64 (whi v), .int .u64 (wlo v)] 102)).alloc (.cells #[.int .i64 0, .int .u64 0] 102)).alloc (.cells #[.int .i64 0, .int .u64 0] 102))) := Lib.hid (by (repeat first | assumption | exact Below.refl _ _ | refine Below.drew ?_ | refine Below.drewN ?_ _ | refine Below.alloc ?_ (by (first | omega | (simp; done) | (simp; omega))) _ | refine Below.setCell ?_ (by (first | omega | (simp; done) | (simp; omega))) _ | refine Below.trans ?_ (Below.mono (by assumption) (by (first | omega | (simp; done) | (simp; omega))))))
  generalize ((w.alloc (.cells #[.int .i64 (whi v), .int .u64 (wlo v)] 102)).alloc (.cells #[.int .i64 0, .int .u64 0] 102)).alloc (.cells #[.int .i64 0, .int .u64 0] 102) = W0 at *
  have n1 : w.heap.size + 2 ≠ w.heap.size := by omega
  have n2 : w.heap.size + 2 ≠ w.heap.size + 1 := by omega
  go_loopw [7] (fun j wr => ∃ i : Nat, i ≤ k ∧ j = .int .i64 i ∧ Hid (WAt wr w.heap.size v) ∧ Hid (WAt wr (w.heap.size + 1) 0) ∧ Hid (WAt wr (w.heap.size + 2) (v * (i : Int))) ∧ Hid (Below w.heap.size w wr)) (fun j _ => k - (intOf j).toNat)
  case atStart => exact ⟨0, Nat.zero_le _, rfl, hA.out, hR.out, hT.out, hb0.out⟩
  case round =>
    obtain ⟨i, hi, rfl, ha, hr, ht, hbb⟩ := hrel
    have hzr := hbb.out.size
    by_cases hlt : i < k
    · have HD := Lib.hid (fun w => Add_any (v * (i : Int)) v w)
      have Hs := Lib.hid (Hmul.out i)
      rw [Hs.out] at HD
      have hi0 : (0 : Int) ≤ (i : Int) := by omega
      have hin : (i : Int) < (k : Int) := by omega
      obtain ⟨a0, a1, af⟩ := ha.out
      obtain ⟨t0, t1, tf⟩ := ht.out
      generalize hS : v * ((i + 1 : Nat) : Int) = S at *
      have HS := Lib.hid hS
      clear hS
      generalize v * (i : Int) = T at *
      unfold W at HD
      go_wp2_with fail
      ((with_reducible refine (HD.out _).mono ?_); rintro e w6 ⟨rfl, hb6⟩)
      have HT6 := Lib.hid ((ht.out.kept hb6).set S)
      have k6 := ht.out.kept hb6
      have HA6 := Lib.hid (((ha.out.kept hb6).far n1 (i := 0) (x := .int .i64 (whi S))).far n1 (i := 1) (x := .int .u64 (wlo S)))
      have HR6 := Lib.hid (((hr.out.kept hb6).far n2 (i := 0) (x := .int .i64 (whi S))).far n2 (i := 1) (x := .int .u64 (wlo S)))
      have HB6 : Hid (Below w.heap.size w ((w6.setCell ⟨w.heap.size + 2, 0, none⟩ (.int .i64 (whi S))).setCell ⟨w.heap.size + 2, 1, none⟩ (.int .u64 (wlo S)))) := Lib.hid (((hbb.out.trans (hb6.mono hzr)).setCell (by simp) _).setCell (by simp) _)
      obtain ⟨y0, y1, yf⟩ := k6
      clear hb6 ha hr ht a0 a1 af t0 t1 tf HD
      go_wp2
      go_roundw
      case rel => exact ⟨i + 1, by omega, by go_num, HA6.out, HR6.out, Lib.hid (by rw [HS.out]; exact HT6.out), HB6.out⟩
      case measure => first | (simp [intOf]; done) | (simp [intOf]; omega)
    · obtain rfl : i = k := by omega
      have HRr := Lib.hid (hr.out.set (v * (i : Int)))
      obtain ⟨t0, t1, tf⟩ := ht.out
      obtain ⟨r0, r1, rf⟩ := hr.out
      rw [whi0] at r0
      rw [wlo0] at r1
      clear ha hr ht
      generalize hT : v * (i : Int) = T at *
      have HT := Lib.hid hT
      clear hT
      go_wp2
      obtain ⟨q0, q1, qf⟩ := HRr.out
      exact bodyPost_ret (v := .agg #[.int .i64 (whi T), .int .u64 (wlo T)]) (by simp [results, Try.results49, go_sem, q0, q1]) rfl ⟨by rw [HT.out], (hbb.out.setCell (Nat.le_succ _) _).setCell (Nat.le_succ _) _⟩
/-- Where x from low to below high stands. -/
def binN (x low high : Int) (bins : Nat) : Nat := ((x - low) * bins / (high - low)).toNat
theorem binN_spec {x low high : Int} {bins : Nat} (h1 : low ≤ x) (h2 : x < high) (hb : 1 ≤ bins) :
    binN x low high bins < bins ∧ (high - low) * (binN x low high bins : Int) ≤ (x - low) * bins ∧ (x - low) * bins < (high - low) * ((binN x low high bins : Int) + 1) := by
  have hr : 0 < high - low := by omega
  have hn : 0 ≤ (x - low) * bins := Int.mul_nonneg (by omega) (by omega)
  have hq : 0 ≤ (x - low) * bins / (high - low) := Int.ediv_nonneg hn (by omega)
  have e : (binN x low high bins : Int) = (x - low) * bins / (high - low) := Int.toNat_of_nonneg hq
  have hlt : (x - low) * bins < bins * (high - low) := by
    rw [Int.mul_comm (bins : Int)]
    exact Int.mul_lt_mul_of_pos_right (by omega) (by omega)
  have h3 : (x - low) * bins / (high - low) < bins := by
    rw [Int.ediv_lt_iff_lt_mul hr]
    exact hlt
  refine ⟨by omega, ?_, ?_⟩
  · rw [e, Int.mul_comm]
    exact Int.ediv_mul_le _ (by omega)
  · have h := Int.lt_ediv_add_one_mul_self ((x - low) * (bins : Int)) hr
    rw [Int.mul_comm ((x - low) * (bins : Int) / (high - low) + 1)] at h
    rw [e]
    exact h

theorem room_step {R A : Int} {b B : Nat} (hR : 0 < R) (hA : R * (B : Int) ≤ A) (hb : b < B) : R * ((b + 1 : Nat) : Int) ≤ A :=
  Int.le_trans (Int.mul_le_mul_of_nonneg_left (by omega) (by omega)) hA

set_option maxHeartbeats 3200000 in
set_option maxRecDepth 100000 in
theorem bin_any (x low high : Int) (bins : Nat) (w : World) (ix : I64 x) (il : I64 low) (ih : I64 high) (h1 : low ≤ x) (h2 : x < high) (hb : 1 ≤ bins) (hb2 : bins ≤ 64) :
    Calls Try.prog 21 #[.int .i64 x, .int .i64 low, .int .i64 high, .int .i64 bins] w fun e w' => e = .returned (.int .i64 (binN x low high bins)) ∧ Below w.heap.size w w' := by
  obtain ⟨s1, s2, s3⟩ := binN_spec h1 h2 hb
  have HOx := Lib.hid (fun w => Of_any x w ix)
  have HOl := Lib.hid (fun w => Of_any low w il)
  have HOh := Lib.hid (fun w => Of_any high w ih)
  have HSx := Lib.hid (fun w => Sub_any x low w)
  have HSh := Lib.hid (fun w => Sub_any high low w)
  have HTa := Lib.hid (fun w => times_any (x - low) bins w (by omega))
  have hRb : 0 < high - low ∧ high - low ≤ 18446744073709551615 := by unfold I64 at *; omega
  have hAb : 0 ≤ (x - low) * bins ∧ (x - low) * bins ≤ 18446744073709551615 * 64 := ⟨Int.mul_nonneg (by omega) (by omega), Int.mul_le_mul (by unfold I64 at *; omega) (by omega) (by omega) (by omega)⟩
  have hmb : ∀ k : Nat, k ≤ 64 → 0 ≤ (high - low) * (k : Int) ∧ (high - low) * (k : Int) ≤ 18446744073709551615 * 64 := fun k hk => ⟨Int.mul_nonneg (by omega) (by omega), Int.mul_le_mul (by omega) (by omega) (by omega) (by omega)⟩
  have HTr := Lib.hid (fun k w => times_any (high - low) k w)
  have HCr := Lib.hid (fun (k : Nat) w (hk : k ≤ 64) => Cmp_any ((high - low) * (k : Int)) ((x - low) * bins) w (by have := hmb k hk; unfold I128; omega) (by unfold I128; omega))
  have HStep : Hid (∀ b : Nat, b < binN x low high bins → (high - low) * ((b + 1 : Nat) : Int) ≤ (x - low) * bins) := Lib.hid (fun b h => room_step (by omega) s2 h)
  have HLast : Hid ((x - low) * bins < (high - low) * (((binN x low high bins + 1 : Nat)) : Int)) := Lib.hid (by rw [show (((binN x low high bins + 1 : Nat)) : Int) = (binN x low high bins : Int) + 1 by simp]; exact s3)
  clear s2 s3 hAb hmb ix il ih h1 h2 hRb
  generalize binN x low high bins = B at *
  generalize (x - low) * (bins : Int) = A at *
  generalize hU : x - low = U at *
  generalize hR : high - low = R at *
  clear hU hR
  unfold W at *
  go_enter Try.func21, Try.ntmps21
  go_wp2_with fail
  ((with_reducible refine (HOx.out _).mono ?_); rintro e w1 ⟨rfl, hb1⟩)
  have Hb1 := Lib.hid hb1
  clear hb1
  go_wp2_with fail
  ((with_reducible refine (HOl.out _).mono ?_); rintro e w2 ⟨rfl, hb2'⟩)
  have Hb2 := Lib.hid (Hb1.out.trans (hb2'.mono Hb1.out.size))
  clear hb2'
  go_wp2_with fail
  ((with_reducible refine (HSx.out _).mono ?_); rintro e w3 ⟨rfl, hb3⟩)
  have Hb3 := Lib.hid ((Hb2.out.trans (hb3.mono Hb2.out.size)).alloc (Nat.le_trans Hb2.out.size hb3.size) (.cells #[.int .i64 (whi U), .int .u64 (wlo U)] 102))
  have HU3 := Lib.hid (WAt.lay w3 U)
  clear hb3
  go_wp2_with fail
  ((with_reducible refine (HOh.out _).mono ?_); rintro e w4 ⟨rfl, hb4⟩)
  have HU4 := Lib.hid (HU3.out.kept hb4)
  have Hb4 := Lib.hid (Hb3.out.trans (hb4.mono Hb3.out.size))
  clear hb4
  go_wp2_with fail
  ((with_reducible refine (HOl.out _).mono ?_); rintro e w5 ⟨rfl, hb5⟩)
  have HU5 := Lib.hid (HU4.out.kept hb5)
  have Hb5 := Lib.hid (Hb4.out.trans (hb5.mono Hb4.out.size))
  clear hb5
  go_wp2_with fail
  ((with_reducible refine (HSh.out _).mono ?_); rintro e w6 ⟨rfl, hb6⟩)
  have hb6' : Below w5.heap.size w5 (w6.alloc (.cells #[.int .i64 (whi R), .int .u64 (wlo R)] 102)) := hb6.alloc hb6.size _
  have HU6 := Lib.hid (HU5.out.kept hb6')
  have HR6 := Lib.hid (WAt.lay w6 R)
  have Hb6 := Lib.hid (Hb5.out.trans (hb6'.mono Hb5.out.size))
  clear hb6 hb6' HU3 HU4 HU5 Hb1 Hb2 Hb3 Hb4 Hb5 HOx HOl HOh HSx HSh
  obtain ⟨v0, v1, _⟩ := HU6.out
  go_wp2_with fail
  ((with_reducible refine (HTa.out _).mono ?_); rintro e w7 ⟨rfl, hb7⟩)
  have hb7' : Below (w6.alloc (.cells #[.int .i64 (whi R), .int .u64 (wlo R)] 102)).heap.size (w6.alloc (.cells #[.int .i64 (whi R), .int .u64 (wlo R)] 102)) (w7.alloc (.cells #[.int .i64 (whi A), .int .u64 (wlo A)] 102)) := hb7.alloc hb7.size _
  have HR7 := Lib.hid (HR6.out.kept hb7')
  have HA7 := Lib.hid (WAt.lay w7 A)
  have Hb7 := Lib.hid (Hb6.out.trans (hb7'.mono Hb6.out.size))
  clear hb7 hb7' v0 v1 HU6 HR6 Hb6 HTa
  go_wp2
  generalize w6.heap.size = gr at *
  generalize hW7 : w7.alloc (.cells #[.int .i64 (whi A), .int .u64 (wlo A)] 102) = W7 at *
  generalize w7.heap.size = ga at *
  clear hW7
  go_loopw [12] (fun bv wr => ∃ b : Nat, b ≤ B ∧ bv = .int .i64 b ∧ Hid (WAt wr gr R) ∧ Hid (WAt wr ga A) ∧ Hid (Below w.heap.size w wr)) (fun bv _ => B - (intOf bv).toNat)
  case atStart => exact ⟨0, Nat.zero_le _, rfl, HR7.out, HA7.out, Hb7.out⟩
  case round =>
    obtain ⟨b, hbB, rfl, hr, ha, hbb⟩ := hrel
    have hzr := hbb.out.size
    obtain ⟨r0, r1, _⟩ := hr.out
    obtain ⟨a0, a1, _⟩ := ha.out
    have lr := hr.out.lt
    have la := ha.out.lt
    have hb0 : (0 : Int) ≤ (b : Int) := by omega
    have hwb : IntKind.i64.wrap ((b : Int) + 1) = (b : Int) + 1 := by rw [IntKind.wrap_i64]; omega
    by_cases hlt : b < B
    · have hlb : (b : Int) + 1 < (bins : Int) := by omega
      have HT8 := Lib.hid (fun w => HTr.out (b + 1) w (by omega))
      have HC10 := Lib.hid (fun w => HCr.out (b + 1) w (by omega))
      have hle := HStep.out b hlt
      rw [show (((b + 1 : Nat)) : Int) = (b : Int) + 1 by simp] at HT8 HC10 hle
      have hcmp : cmpI (R * ((b : Int) + 1)) A ≤ 0 := by unfold cmpI; split <;> (try split) <;> omega
      clear hle
      generalize R * ((b : Int) + 1) = X at *
      go_wp2
      refine wp_region_held_drew (S := (fun w' => w'.cell? ⟨gr, 0, none⟩ = some (.int .i64 (whi R)) ∧ w'.cell? ⟨gr, 1, none⟩ = some (.int .u64 (wlo R)) ∧ w'.cell? ⟨ga, 0, none⟩ = some (.int .i64 (whi A)) ∧ w'.cell? ⟨ga, 1, none⟩ = some (.int .u64 (wlo A)))) (by kernel_rfl) ?_ (fun hHeld => ?_)
      · exact ⟨r0, r1, a0, a1⟩
      refine tkW (v := ?_) 0 rfl (by kernel_rfl) (by kernel_rfl) (by kernel_rfl) (fun _ _ _ h => h) (by rfl) (by assumption) ?_ ?_
      rotate_left
      · intro w' hSw; obtain ⟨s0, s1, s2, s3⟩ := hSw; go_simp; (try with_reducible rfl)
      (try simp only [Act.put, List.setIfInBounds_toArray, List.set_cons_zero, List.set_cons_succ])
      refine tkW (v := ?_) 1 rfl (by kernel_rfl) (by kernel_rfl) (by kernel_rfl) (fun _ _ _ h => h) (by rfl) (by assumption) ?_ ?_
      rotate_left
      · intro w' hSw; obtain ⟨s0, s1, s2, s3⟩ := hSw; go_simp; (try with_reducible rfl)
      (try simp only [Act.put, List.setIfInBounds_toArray, List.set_cons_zero, List.set_cons_succ])
      refine tkW (v := ?_) 2 rfl (by kernel_rfl) (by kernel_rfl) (by kernel_rfl) (fun _ _ _ h => h) (by rfl) (by assumption) ?_ ?_
      rotate_left
      · intro w' hSw; obtain ⟨s0, s1, s2, s3⟩ := hSw; go_simp; (try with_reducible rfl)
      (try simp only [Act.put, List.setIfInBounds_toArray, List.set_cons_zero, List.set_cons_succ])
      refine tkW (v := .bool true) 3 rfl (by kernel_rfl) (by kernel_rfl) (by kernel_rfl) (fun _ _ _ h => h) (by rfl) (by assumption) ?_ ?_
      · intro w' hSw; obtain ⟨s0, s1, s2, s3⟩ := hSw; go_simp; (try with_reducible rfl)
      (try simp only [Act.put, List.setIfInBounds_toArray, List.set_cons_zero, List.set_cons_succ])
      refine tkW (v := ?_) 4 rfl (by kernel_rfl) (by kernel_rfl) (by kernel_rfl) (fun _ _ _ h => h) (by rfl) (by assumption) ?_ ?_
      rotate_left
      · intro w' hSw; obtain ⟨s0, s1, s2, s3⟩ := hSw; go_simp; (try with_reducible rfl)
      (try simp only [Act.put, List.setIfInBounds_toArray, List.set_cons_zero, List.set_cons_succ])
      refine tkW (v := ?_) 5 rfl (by kernel_rfl) (by kernel_rfl) (by kernel_rfl) (fun _ _ _ h => h) (by rfl) (by assumption) ?_ ?_
      rotate_left
      · intro w' hSw; obtain ⟨s0, s1, s2, s3⟩ := hSw; go_simp; (try with_reducible rfl)
      (try simp only [Act.put, List.setIfInBounds_toArray, List.set_cons_zero, List.set_cons_succ])
      refine tkW (v := ?_) 6 rfl (by kernel_rfl) (by kernel_rfl) (by kernel_rfl) (fun _ _ _ h => h) (by rfl) (by assumption) ?_ ?_
      rotate_left
      · intro w' hSw; obtain ⟨s0, s1, s2, s3⟩ := hSw; go_simp; (try with_reducible rfl)
      (try simp only [Act.put, List.setIfInBounds_toArray, List.set_cons_zero, List.set_cons_succ])
      refine tkW (v := ?_) 7 rfl (by kernel_rfl) (by kernel_rfl) (by kernel_rfl) (fun _ _ _ h => h) (by rfl) (by assumption) ?_ ?_
      rotate_left
      · intro w' hSw; obtain ⟨s0, s1, s2, s3⟩ := hSw; go_simp; (try with_reducible rfl)
      (try simp only [Act.put, List.setIfInBounds_toArray, List.set_cons_zero, List.set_cons_succ])
      refine tkW (v := ?_) 9 rfl (by kernel_rfl) (by kernel_rfl) (by kernel_rfl) (fun _ _ _ h => h) (by rfl) (by assumption) ?_ ?_
      rotate_left
      · intro w' hSw; obtain ⟨s0, s1, s2, s3⟩ := hSw; go_simp; (try with_reducible rfl)
      (try simp only [Act.put, List.setIfInBounds_toArray, List.set_cons_zero, List.set_cons_succ])
      refine tkC 8 rfl (by kernel_rfl) (by rfl) (fun KK hK => ?_)
      go_simp
      (go_at_call 49; refine (HT8.out _).mono ?_; rintro e w5 ⟨rfl, hb5⟩)
      (try dsimp only)
      have hb5d : Below wr.heap.size wr w5 := Below.trans (Below.drew (Below.refl _ _)) hb5
      refine hK.out _ _ ?_ (fun hHeld2 => ?_)
      · exact ⟨(hb5d.cell (p := ⟨gr, 0, none⟩) lr).trans r0, (hb5d.cell (p := ⟨gr, 1, none⟩) lr).trans r1, (hb5d.cell (p := ⟨ga, 0, none⟩) la).trans a0, (hb5d.cell (p := ⟨ga, 1, none⟩) la).trans a1⟩
      clear hK KK
      (try simp only [Act.put, List.setIfInBounds_toArray, List.set_cons_zero, List.set_cons_succ])
      refine tkC 10 rfl (by kernel_rfl) (by rfl) (fun KK hK => ?_)
      go_simp
      (go_at_call 50; refine (HC10.out _).mono ?_; rintro e w6 ⟨rfl, hb6⟩)
      (try dsimp only)
      have hb6d : Below wr.heap.size wr w6 := hb5d.trans (hb6.mono hb5d.size)
      refine hK.out _ _ ?_ (fun hHeld3 => ?_)
      · exact ⟨(hb6d.cell (p := ⟨gr, 0, none⟩) lr).trans r0, (hb6d.cell (p := ⟨gr, 1, none⟩) lr).trans r1, (hb6d.cell (p := ⟨ga, 0, none⟩) la).trans a0, (hb6d.cell (p := ⟨ga, 1, none⟩) la).trans a1⟩
      clear hK KK
      (try simp only [Act.put, List.setIfInBounds_toArray, List.set_cons_zero, List.set_cons_succ])
      refine tkW (v := .bool true) 11 rfl (by kernel_rfl) (by kernel_rfl) (by kernel_rfl) (fun _ _ _ h => h) (by rfl) (by assumption) ?_ ?_
      · intro w' hSw; obtain ⟨s0, s1, s2, s3⟩ := hSw; go_simp; (try with_reducible rfl)
      (try simp only [Act.put, List.setIfInBounds_toArray, List.set_cons_zero, List.set_cons_succ])
      refine tkW (v := ?_) 12 rfl (by kernel_rfl) (by kernel_rfl) (by kernel_rfl) (fun _ _ _ h => h) (by rfl) (by assumption) ?_ ?_
      rotate_left
      · intro w' hSw; obtain ⟨s0, s1, s2, s3⟩ := hSw; go_simp; (try with_reducible rfl)
      (try simp only [Act.put, List.setIfInBounds_toArray, List.set_cons_zero, List.set_cons_succ])
      refine wpAnyH_done (by kernel_rfl) ?_ _
      go_wp2
      go_roundw
      case rel => exact ⟨b + 1, by omega, by go_num, Lib.hid (hr.out.kept (by (repeat first | assumption | exact Below.refl _ _ | refine Below.drew ?_ | refine Below.drewN ?_ _ | refine Below.alloc ?_ (by (first | omega | (simp; done) | (simp; omega))) _ | refine Below.setCell ?_ (by (first | omega | (simp; done) | (simp; omega))) _ | refine Below.trans ?_ (Below.mono (by assumption) (by (first | omega | (simp; done) | (simp; omega))))))), Lib.hid (ha.out.kept (by (repeat first | assumption | exact Below.refl _ _ | refine Below.drew ?_ | refine Below.drewN ?_ _ | refine Below.alloc ?_ (by (first | omega | (simp; done) | (simp; omega))) _ | refine Below.setCell ?_ (by (first | omega | (simp; done) | (simp; omega))) _ | refine Below.trans ?_ (Below.mono (by assumption) (by (first | omega | (simp; done) | (simp; omega))))))), Lib.hid (hbb.out.trans (Below.mono (show Below wr.heap.size wr _ from by (repeat first | assumption | exact Below.refl _ _ | refine Below.drew ?_ | refine Below.drewN ?_ _ | refine Below.alloc ?_ (by (first | omega | (simp; done) | (simp; omega))) _ | refine Below.setCell ?_ (by (first | omega | (simp; done) | (simp; omega))) _ | refine Below.trans ?_ (Below.mono (by assumption) (by (first | omega | (simp; done) | (simp; omega)))))) hzr))⟩
      case measure => first | (simp [intOf]; done) | (simp [intOf]; omega)
    · obtain rfl : b = B := by omega
      by_cases hbb2 : b + 1 < bins
      · have hlb : (b : Int) + 1 < (bins : Int) := by omega
        have HT8 := Lib.hid (fun w => HTr.out (b + 1) w (by omega))
        have HC10 := Lib.hid (fun w => HCr.out (b + 1) w (by omega))
        have hgt := HLast.out
        rw [show (((b + 1 : Nat)) : Int) = (b : Int) + 1 by simp] at HT8 HC10 hgt
        have hcmp : ¬ cmpI (R * ((b : Int) + 1)) A ≤ 0 := by unfold cmpI; rw [if_neg (by omega), if_neg (by omega)]; omega
        clear hgt
        generalize R * ((b : Int) + 1) = X at *
        go_wp2
        refine wp_region_held_drew (S := (fun w' => w'.cell? ⟨gr, 0, none⟩ = some (.int .i64 (whi R)) ∧ w'.cell? ⟨gr, 1, none⟩ = some (.int .u64 (wlo R)) ∧ w'.cell? ⟨ga, 0, none⟩ = some (.int .i64 (whi A)) ∧ w'.cell? ⟨ga, 1, none⟩ = some (.int .u64 (wlo A)))) (by kernel_rfl) ?_ (fun hHeld => ?_)
        · exact ⟨r0, r1, a0, a1⟩
        refine tkW (v := ?_) 0 rfl (by kernel_rfl) (by kernel_rfl) (by kernel_rfl) (fun _ _ _ h => h) (by rfl) (by assumption) ?_ ?_
        rotate_left
        · intro w' hSw; obtain ⟨s0, s1, s2, s3⟩ := hSw; go_simp; (try with_reducible rfl)
        (try simp only [Act.put, List.setIfInBounds_toArray, List.set_cons_zero, List.set_cons_succ])
        refine tkW (v := ?_) 1 rfl (by kernel_rfl) (by kernel_rfl) (by kernel_rfl) (fun _ _ _ h => h) (by rfl) (by assumption) ?_ ?_
        rotate_left
        · intro w' hSw; obtain ⟨s0, s1, s2, s3⟩ := hSw; go_simp; (try with_reducible rfl)
        (try simp only [Act.put, List.setIfInBounds_toArray, List.set_cons_zero, List.set_cons_succ])
        refine tkW (v := ?_) 2 rfl (by kernel_rfl) (by kernel_rfl) (by kernel_rfl) (fun _ _ _ h => h) (by rfl) (by assumption) ?_ ?_
        rotate_left
        · intro w' hSw; obtain ⟨s0, s1, s2, s3⟩ := hSw; go_simp; (try with_reducible rfl)
        (try simp only [Act.put, List.setIfInBounds_toArray, List.set_cons_zero, List.set_cons_succ])
        refine tkW (v := .bool true) 3 rfl (by kernel_rfl) (by kernel_rfl) (by kernel_rfl) (fun _ _ _ h => h) (by rfl) (by assumption) ?_ ?_
        · intro w' hSw; obtain ⟨s0, s1, s2, s3⟩ := hSw; go_simp; (try with_reducible rfl)
        (try simp only [Act.put, List.setIfInBounds_toArray, List.set_cons_zero, List.set_cons_succ])
        refine tkW (v := ?_) 4 rfl (by kernel_rfl) (by kernel_rfl) (by kernel_rfl) (fun _ _ _ h => h) (by rfl) (by assumption) ?_ ?_
        rotate_left
        · intro w' hSw; obtain ⟨s0, s1, s2, s3⟩ := hSw; go_simp; (try with_reducible rfl)
        (try simp only [Act.put, List.setIfInBounds_toArray, List.set_cons_zero, List.set_cons_succ])
        refine tkW (v := ?_) 5 rfl (by kernel_rfl) (by kernel_rfl) (by kernel_rfl) (fun _ _ _ h => h) (by rfl) (by assumption) ?_ ?_
        rotate_left
        · intro w' hSw; obtain ⟨s0, s1, s2, s3⟩ := hSw; go_simp; (try with_reducible rfl)
        (try simp only [Act.put, List.setIfInBounds_toArray, List.set_cons_zero, List.set_cons_succ])
        refine tkW (v := ?_) 6 rfl (by kernel_rfl) (by kernel_rfl) (by kernel_rfl) (fun _ _ _ h => h) (by rfl) (by assumption) ?_ ?_
        rotate_left
        · intro w' hSw; obtain ⟨s0, s1, s2, s3⟩ := hSw; go_simp; (try with_reducible rfl)
        (try simp only [Act.put, List.setIfInBounds_toArray, List.set_cons_zero, List.set_cons_succ])
        refine tkW (v := ?_) 7 rfl (by kernel_rfl) (by kernel_rfl) (by kernel_rfl) (fun _ _ _ h => h) (by rfl) (by assumption) ?_ ?_
        rotate_left
        · intro w' hSw; obtain ⟨s0, s1, s2, s3⟩ := hSw; go_simp; (try with_reducible rfl)
        (try simp only [Act.put, List.setIfInBounds_toArray, List.set_cons_zero, List.set_cons_succ])
        refine tkW (v := ?_) 9 rfl (by kernel_rfl) (by kernel_rfl) (by kernel_rfl) (fun _ _ _ h => h) (by rfl) (by assumption) ?_ ?_
        rotate_left
        · intro w' hSw; obtain ⟨s0, s1, s2, s3⟩ := hSw; go_simp; (try with_reducible rfl)
        (try simp only [Act.put, List.setIfInBounds_toArray, List.set_cons_zero, List.set_cons_succ])
        refine tkC 8 rfl (by kernel_rfl) (by rfl) (fun KK hK => ?_)
        go_simp
        (go_at_call 49; refine (HT8.out _).mono ?_; rintro e w5 ⟨rfl, hb5⟩)
        (try dsimp only)
        have hb5d : Below wr.heap.size wr w5 := Below.trans (Below.drew (Below.refl _ _)) hb5
        refine hK.out _ _ ?_ (fun hHeld2 => ?_)
        · exact ⟨(hb5d.cell (p := ⟨gr, 0, none⟩) lr).trans r0, (hb5d.cell (p := ⟨gr, 1, none⟩) lr).trans r1, (hb5d.cell (p := ⟨ga, 0, none⟩) la).trans a0, (hb5d.cell (p := ⟨ga, 1, none⟩) la).trans a1⟩
        clear hK KK
        (try simp only [Act.put, List.setIfInBounds_toArray, List.set_cons_zero, List.set_cons_succ])
        refine tkC 10 rfl (by kernel_rfl) (by rfl) (fun KK hK => ?_)
        go_simp
        (go_at_call 50; refine (HC10.out _).mono ?_; rintro e w6 ⟨rfl, hb6⟩)
        (try dsimp only)
        have hb6d : Below wr.heap.size wr w6 := hb5d.trans (hb6.mono hb5d.size)
        refine hK.out _ _ ?_ (fun hHeld3 => ?_)
        · exact ⟨(hb6d.cell (p := ⟨gr, 0, none⟩) lr).trans r0, (hb6d.cell (p := ⟨gr, 1, none⟩) lr).trans r1, (hb6d.cell (p := ⟨ga, 0, none⟩) la).trans a0, (hb6d.cell (p := ⟨ga, 1, none⟩) la).trans a1⟩
        clear hK KK
        (try simp only [Act.put, List.setIfInBounds_toArray, List.set_cons_zero, List.set_cons_succ])
        refine tkW (v := .bool false) 11 rfl (by kernel_rfl) (by kernel_rfl) (by kernel_rfl) (fun _ _ _ h => h) (by rfl) (by assumption) ?_ ?_
        · intro w' hSw; obtain ⟨s0, s1, s2, s3⟩ := hSw; go_simp; (try with_reducible rfl)
        (try simp only [Act.put, List.setIfInBounds_toArray, List.set_cons_zero, List.set_cons_succ])
        refine tkW (v := ?_) 12 rfl (by kernel_rfl) (by kernel_rfl) (by kernel_rfl) (fun _ _ _ h => h) (by rfl) (by assumption) ?_ ?_
        rotate_left
        · intro w' hSw; obtain ⟨s0, s1, s2, s3⟩ := hSw; go_simp; (try with_reducible rfl)
        (try simp only [Act.put, List.setIfInBounds_toArray, List.set_cons_zero, List.set_cons_succ])
        refine wpAnyH_done (by kernel_rfl) ?_ _
        go_wp2
        go_ret
        exact ⟨rfl, hbb.out.trans (Below.mono (show Below wr.heap.size wr _ from by (repeat first | assumption | exact Below.refl _ _ | refine Below.drew ?_ | refine Below.drewN ?_ _ | refine Below.alloc ?_ (by (first | omega | (simp; done) | (simp; omega))) _ | refine Below.setCell ?_ (by (first | omega | (simp; done) | (simp; omega))) _ | refine Below.trans ?_ (Below.mono (by assumption) (by (first | omega | (simp; done) | (simp; omega)))))) hzr)⟩
      · have hlb : ¬ ((b : Int) + 1 < (bins : Int)) := by omega
        go_wp2
        refine wp_region_held_drew (S := (fun w' => w'.cell? ⟨gr, 0, none⟩ = some (.int .i64 (whi R)) ∧ w'.cell? ⟨gr, 1, none⟩ = some (.int .u64 (wlo R)) ∧ w'.cell? ⟨ga, 0, none⟩ = some (.int .i64 (whi A)) ∧ w'.cell? ⟨ga, 1, none⟩ = some (.int .u64 (wlo A)))) (by kernel_rfl) ?_ (fun hHeld => ?_)
        · exact ⟨r0, r1, a0, a1⟩
        refine tkW (v := ?_) 0 rfl (by kernel_rfl) (by kernel_rfl) (by kernel_rfl) (fun _ _ _ h => h) (by rfl) (by assumption) ?_ ?_
        rotate_left
        · intro w' hSw; obtain ⟨s0, s1, s2, s3⟩ := hSw; go_simp; (try with_reducible rfl)
        (try simp only [Act.put, List.setIfInBounds_toArray, List.set_cons_zero, List.set_cons_succ])
        refine tkW (v := ?_) 1 rfl (by kernel_rfl) (by kernel_rfl) (by kernel_rfl) (fun _ _ _ h => h) (by rfl) (by assumption) ?_ ?_
        rotate_left
        · intro w' hSw; obtain ⟨s0, s1, s2, s3⟩ := hSw; go_simp; (try with_reducible rfl)
        (try simp only [Act.put, List.setIfInBounds_toArray, List.set_cons_zero, List.set_cons_succ])
        refine tkW (v := ?_) 2 rfl (by kernel_rfl) (by kernel_rfl) (by kernel_rfl) (fun _ _ _ h => h) (by rfl) (by assumption) ?_ ?_
        rotate_left
        · intro w' hSw; obtain ⟨s0, s1, s2, s3⟩ := hSw; go_simp; (try with_reducible rfl)
        (try simp only [Act.put, List.setIfInBounds_toArray, List.set_cons_zero, List.set_cons_succ])
        refine tkW (v := .bool false) 3 rfl (by kernel_rfl) (by kernel_rfl) (by kernel_rfl) (fun _ _ _ h => h) (by rfl) (by assumption) ?_ ?_
        · intro w' hSw; obtain ⟨s0, s1, s2, s3⟩ := hSw; go_simp; (try with_reducible rfl)
        (try simp only [Act.put, List.setIfInBounds_toArray, List.set_cons_zero, List.set_cons_succ])
        refine tkW (v := ?_) 4 rfl (by kernel_rfl) (by kernel_rfl) (by kernel_rfl) (fun _ _ _ h => h) (by rfl) (by assumption) ?_ ?_
        rotate_left
        · intro w' hSw; obtain ⟨s0, s1, s2, s3⟩ := hSw; go_simp; (try with_reducible rfl)
        (try simp only [Act.put, List.setIfInBounds_toArray, List.set_cons_zero, List.set_cons_succ])
        refine tkU 5 rfl (by kernel_rfl) (by kernel_rfl) (by kernel_rfl) (fun _ _ _ h => h) (by rfl) (by assumption) ?_
        (try simp only [Act.put, List.setIfInBounds_toArray, List.set_cons_zero, List.set_cons_succ])
        refine tkU 6 rfl (by kernel_rfl) (by kernel_rfl) (by kernel_rfl) (fun _ _ _ h => h) (by rfl) (by assumption) ?_
        (try simp only [Act.put, List.setIfInBounds_toArray, List.set_cons_zero, List.set_cons_succ])
        refine tkU 7 rfl (by kernel_rfl) (by kernel_rfl) (by kernel_rfl) (fun _ _ _ h => h) (by rfl) (by assumption) ?_
        (try simp only [Act.put, List.setIfInBounds_toArray, List.set_cons_zero, List.set_cons_succ])
        refine tkU 8 rfl (by kernel_rfl) (by kernel_rfl) (by kernel_rfl) (fun _ _ _ h => h) (by rfl) (by assumption) ?_
        (try simp only [Act.put, List.setIfInBounds_toArray, List.set_cons_zero, List.set_cons_succ])
        refine tkU 9 rfl (by kernel_rfl) (by kernel_rfl) (by kernel_rfl) (fun _ _ _ h => h) (by rfl) (by assumption) ?_
        (try simp only [Act.put, List.setIfInBounds_toArray, List.set_cons_zero, List.set_cons_succ])
        refine tkU 10 rfl (by kernel_rfl) (by kernel_rfl) (by kernel_rfl) (fun _ _ _ h => h) (by rfl) (by assumption) ?_
        (try simp only [Act.put, List.setIfInBounds_toArray, List.set_cons_zero, List.set_cons_succ])
        refine tkU 11 rfl (by kernel_rfl) (by kernel_rfl) (by kernel_rfl) (fun _ _ _ h => h) (by rfl) (by assumption) ?_
        (try simp only [Act.put, List.setIfInBounds_toArray, List.set_cons_zero, List.set_cons_succ])
        refine tkW (v := ?_) 12 rfl (by kernel_rfl) (by kernel_rfl) (by kernel_rfl) (fun _ _ _ h => h) (by rfl) (by assumption) ?_ ?_
        rotate_left
        · intro w' hSw; obtain ⟨s0, s1, s2, s3⟩ := hSw; go_simp; (try with_reducible rfl)
        (try simp only [Act.put, List.setIfInBounds_toArray, List.set_cons_zero, List.set_cons_succ])
        refine wpAnyH_done (by kernel_rfl) ?_ _
        go_wp2
        go_ret
        exact ⟨rfl, hbb.out.trans (Below.mono (show Below wr.heap.size wr _ from by (repeat first | assumption | exact Below.refl _ _ | refine Below.drew ?_ | refine Below.drewN ?_ _ | refine Below.alloc ?_ (by (first | omega | (simp; done) | (simp; omega))) _ | refine Below.setCell ?_ (by (first | omega | (simp; done) | (simp; omega))) _ | refine Below.trans ?_ (Below.mono (by assumption) (by (first | omega | (simp; done) | (simp; omega)))))) hzr)⟩
end Go.Proofs.Ytkmfdggodinjaaa
