/-
  regattaref29: how many numbers stand where. regattaref06.Same, regattalaw23.Plain.
-/
import Derived.Test.YtkmfdggodinjaaaHisA
import Derived.Test.YtkmfdggodinjaaaRefD
import Derived.Test.YtkmfdggodinjaaaRefC
namespace Go.Proofs.Ytkmfdggodinjaaa
open Go.RowKit
set_option linter.unusedVariables false
set_option linter.unusedSimpArgs false

set_option maxHeartbeats 3200000 in
set_option maxRecDepth 100000 in
theorem rbin_any (x low high : Int) (bins : Nat) (w : World) (ix : I64 x) (il : I64 low) (ih : I64 high) (h1 : low ≤ x) (h2 : x < high) (hb : 1 ≤ bins) (hb2 : bins ≤ 64) :
    Calls Try.prog 22 #[.int .i64 x, .int .i64 low, .int .i64 high, .int .i64 bins] w fun e w' => e = .returned (.int .i64 (binN x low high bins)) ∧ Below w.heap.size w w' := by
  obtain ⟨s1, s2, s3⟩ := binN_spec h1 h2 hb
  have hRb : 0 < high - low ∧ high - low ≤ 18446744073709551615 := by unfold I64 at *; omega
  have hUb : 0 ≤ x - low ∧ x - low ≤ 18446744073709551615 := by unfold I64 at *; omega
  have hAb : 0 ≤ (x - low) * bins ∧ (x - low) * bins ≤ 18446744073709551615 * 64 := ⟨Int.mul_nonneg (by omega) (by omega), Int.mul_le_mul (by omega) (by omega) (by omega) (by omega)⟩
  have hmb : ∀ k : Nat, k ≤ 64 → 0 ≤ (high - low) * (k : Int) ∧ (high - low) * (k : Int) ≤ 18446744073709551615 * 64 := fun k hk => ⟨Int.mul_nonneg (by omega) (by omega), Int.mul_le_mul (by omega) (by omega) (by omega) (by omega)⟩
  have HPu := Lib.hid (fun w => bProd_u64 (x - low) bins w hUb.1 hUb.2 (by omega) (by omega))
  have HPr := Lib.hid (fun (k : Nat) w (hk : k ≤ 64) => bProd_u64 (high - low) (k : Int) w (by omega) hRb.2 (by omega) (by omega))
  have HLr := Lib.hid (fun (k : Nat) w (hk : k ≤ 64) => bLess_any ((x - low) * bins) ((high - low) * (k : Int)) w (by unfold U192; omega) (by have := hmb k hk; unfold U192; omega))
  have HStep : Hid (∀ b : Nat, b < binN x low high bins → (high - low) * ((b + 1 : Nat) : Int) ≤ (x - low) * bins) := Lib.hid (fun b h => room_step (by omega) s2 h)
  have HLast : Hid ((x - low) * bins < (high - low) * (((binN x low high bins + 1 : Nat)) : Int)) := Lib.hid (by rw [show (((binN x low high bins + 1 : Nat)) : Int) = (binN x low high bins : Int) + 1 by simp]; exact s3)
  have wU : IntKind.u64.wrap (IntKind.u64.wrap x - IntKind.u64.wrap low) = x - low := by rw [IntKind.wrap_u64, IntKind.wrap_u64, IntKind.wrap_u64]; unfold I64 at *; omega
  have wR : IntKind.u64.wrap (IntKind.u64.wrap high - IntKind.u64.wrap low) = high - low := by rw [IntKind.wrap_u64, IntKind.wrap_u64, IntKind.wrap_u64]; unfold I64 at *; omega
  have wb : IntKind.u64.wrap (bins : Int) = (bins : Int) := by rw [IntKind.wrap_u64]; omega
  clear s2 s3 hAb hmb ix il ih h1 h2 hRb hUb
  generalize binN x low high bins = B at *
  generalize (x - low) * (bins : Int) = A at *
  generalize x - low = U at *
  generalize high - low = R at *
  go_enter Try.func22, Try.ntmps22
  go_wp2
  go_loopw [11] (fun bv wr => ∃ b : Nat, b ≤ B ∧ bv = .int .i64 b ∧ Hid (Below w.heap.size w wr)) (fun bv _ => B - (intOf bv).toNat)
  case atStart => exact ⟨0, Nat.zero_le _, rfl, Lib.hid (Below.refl _ _)⟩
  case round =>
    obtain ⟨b, hbB, rfl, hbb⟩ := hrel
    have hzr := hbb.out.size
    have hb0 : (0 : Int) ≤ (b : Int) := by omega
    have hwb : IntKind.i64.wrap ((b : Int) + 1) = (b : Int) + 1 := by rw [IntKind.wrap_i64]; omega
    have hwu : IntKind.u64.wrap ((b : Int) + 1) = (b : Int) + 1 := by rw [IntKind.wrap_u64]; omega
    by_cases hbb2 : b + 1 < bins
    · have hlb : (b : Int) + 1 < (bins : Int) := by omega
      have HP8 := Lib.hid (fun w => HPr.out (b + 1) w (by omega))
      have HL8 := Lib.hid (fun w => HLr.out (b + 1) w (by omega))
      rw [show (((b + 1 : Nat)) : Int) = (b : Int) + 1 by simp] at HP8 HL8
      by_cases hlt : b < B
      · have hle := HStep.out b hlt
        rw [show (((b + 1 : Nat)) : Int) = (b : Int) + 1 by simp] at hle
        rw [show decide (A < R * ((b : Int) + 1)) = false by rw [decide_eq_false_iff_not]; omega] at HL8
        clear hle
        generalize R * ((b : Int) + 1) = X at *
        go_wp2_with fail
        ((with_reducible refine (HPu.out _).mono ?_); rintro e w5 ⟨rfl, hb5⟩)
        have Hb5 : Hid (Below w.heap.size w w5) := Lib.hid (hbb.out.trans (hb5.mono hzr))
        clear hb5
        go_wp2_with fail
        ((with_reducible refine (HP8.out _).mono ?_); rintro e w6 ⟨rfl, hb6⟩)
        have Hb6 : Hid (Below w.heap.size w w6) := Lib.hid (Hb5.out.trans (hb6.mono Hb5.out.size))
        clear hb6
        go_wp2_with fail
        ((with_reducible refine (HL8.out _).mono ?_); rintro e w7 ⟨rfl, hb7⟩)
        have Hb7 : Hid (Below w.heap.size w w7) := Lib.hid (Hb6.out.trans (hb7.mono Hb6.out.size))
        clear hb7
        go_wp2
        go_roundw
        case rel => exact ⟨b + 1, by omega, by go_num, Hb7.out⟩
        case measure => first | (simp [intOf]; done) | (simp [intOf]; omega)
      · obtain rfl : b = B := by omega
        have hgt := HLast.out
        rw [show (((b + 1 : Nat)) : Int) = (b : Int) + 1 by simp] at hgt
        rw [show decide (A < R * ((b : Int) + 1)) = true by rw [decide_eq_true_iff]; exact hgt] at HL8
        clear hgt
        generalize R * ((b : Int) + 1) = X at *
        go_wp2_with fail
        ((with_reducible refine (HPu.out _).mono ?_); rintro e w5 ⟨rfl, hb5⟩)
        have Hb5 : Hid (Below w.heap.size w w5) := Lib.hid (hbb.out.trans (hb5.mono hzr))
        clear hb5
        go_wp2_with fail
        ((with_reducible refine (HP8.out _).mono ?_); rintro e w6 ⟨rfl, hb6⟩)
        have Hb6 : Hid (Below w.heap.size w w6) := Lib.hid (Hb5.out.trans (hb6.mono Hb5.out.size))
        clear hb6
        go_wp2_with fail
        ((with_reducible refine (HL8.out _).mono ?_); rintro e w7 ⟨rfl, hb7⟩)
        have Hb7 : Hid (Below w.heap.size w w7) := Lib.hid (Hb6.out.trans (hb7.mono Hb6.out.size))
        clear hb7
        go_wp2
        go_ret
        exact ⟨rfl, Hb7.out⟩
    · obtain rfl : b = B := by omega
      have hlb : ¬ ((b : Int) + 1 < (bins : Int)) := by omega
      go_wp2
      go_ret
      exact ⟨rfl, hbb.out⟩

theorem eI64n : Elem Try.prog 33 2 1 8 (.int .i64 0) := ⟨Try.underlying33, by kernel_rfl, rfl, by omega⟩

set_option maxHeartbeats 1600000 in
theorem Plain_any (a : Option Addr) (n c : Nat) (l : List Int) (w : World) (h : Rd w .i64 a n l) (hn : n ≤ 100000) :
    Calls Try.prog 12 #[.slice a n c] w fun e w' => ∃ v, e = .returned v ∧ Ow w' w.heap.size 2 .i64 v l ∧ Below w.heap.size w w' := by
  have H := Lib.hid h; clear h
  go_enter Try.func12, Try.ntmps12
  go_wp2
  go_loopw [3, 8] (fun lv k wr => ∃ o : Nat, o ≤ n ∧ k = .int .i64 o ∧ Hid (wr.ownsRow w.heap.size 2 1 lv o ((l.take o).map (Value.int .i64))) ∧ Hid (Below w.heap.size w wr)) (fun _ k _ => n - (intOf k).toNat)
  case atStart => exact ⟨0, Nat.zero_le _, rfl, Lib.hid ⟨by simp, .inl ⟨rfl, rfl⟩⟩, Below.refl _ _⟩
  case round =>
    obtain ⟨o, ho, rfl, hown, hb⟩ := hrel
    by_cases hlt : o < n
    · obtain ⟨ba, oa, rfl, hba, hca⟩ := (H.out.kept hb.out).at hlt
      have hzr := hb.out.size
      have Hs := Lib.hid (map_step (fun z => z) l o (by rw [H.out.1]; exact hlt))
      simp only [List.map_id'] at Hs
      generalize l[o]?.getD 0 = z at *
      go_wp2_with (at_builtin; refine wpl_app1 eI64n rfl _ _ rfl w.heap.size _ o _ rfl (hown.out.alloc _) wr.heap.size (.int .i64 z) rfl (World.cell?_alloc_at _ _ _ _ rfl) rfl ?c3 ?c4 ?c5 ?_)
      case c3 => unfold maxLen; omega
      case c4 => omega
      case c5 => simp; omega
      intro v' w9 hown9 hg9
      have Hb9 := Lib.hid (Below.grownOf (hb.out.alloc hzr _) (hown.out.alloc _) hg9 (by simp; omega))
      have Hown9 := Lib.hid hown9
      clear hown9 hg9
      go_wp2
      go_roundw
      case rel => exact ⟨o + 1, by omega, by go_num, Lib.hid (by rw [Hs.out]; simpa using Hown9.out), Hb9.out⟩
      case measure => first | (simp [intOf]; done) | (simp [intOf]; omega)
    · obtain rfl : o = n := by omega
      have Hf : Hid (l.take o = l) := Lib.hid (List.take_of_length_le (by rw [H.out.1]; exact Nat.le_refl _))
      go_wp2
      go_ret
      exact ⟨_, rfl, Ow.of (n := o) (by have := hown.out; rw [Hf.out] at this; exact this), hb.out⟩

set_option maxHeartbeats 1600000 in
theorem same6_any (a b : Option Addr) (n ca cb : Nat) (l : List Int) (w : World) (ha : Rd w .i64 a n l) (hb : Rd w .i64 b n l) :
    Calls Try.prog 10 #[.slice a n ca, .slice b n cb] w fun e w' => e = .returned (.bool true) ∧ Drew w w' := by
  have HA := Lib.hid ha; have HB := Lib.hid hb
  have hn := ha.2.1
  clear ha hb
  go_enter Try.func10, Try.ntmps10
  go_wp2
  go_loopw [5] (fun k wr => ∃ i : Nat, i ≤ n ∧ k = .int .i64 i ∧ Hid (Drew w wr)) (fun k _ => n - (intOf k).toNat)
  case atStart => exact ⟨0, Nat.zero_le _, rfl, Drew.refl _⟩
  case round =>
    obtain ⟨i, hi, rfl, hq⟩ := hrel
    obtain ⟨nd, rfl⟩ := hq.out
    by_cases hlt : i < n
    · obtain ⟨ba, oa, rfl, hba, hca⟩ := HA.out.at hlt
      obtain ⟨bb, ob, rfl, hbb, hcb⟩ := HB.out.at hlt
      generalize l[i]?.getD 0 = z at *
      have hi0 : (0 : Int) ≤ (i : Int) := by omega
      have hin : (i : Int) < (n : Int) := by omega
      go_wp2
      go_quiet (fail)
      go_wp2
      go_roundw
      case rel => exact ⟨i + 1, by omega, by go_num, Lib.hid ((Drew.refl _).drewN _)⟩
      case measure => first | (simp [intOf]; done) | (simp [intOf]; omega)
    · obtain rfl : i = n := by omega
      go_wp2
      go_ret
      exact ⟨rfl, ⟨nd, rfl⟩⟩
end Go.Proofs.Ytkmfdggodinjaaa
