/-
  regattaref29.At: the number at a place of all.
-/
import Derived.Test.YtkmfdggodinjaaaSrtP
namespace Go.Proofs.Ytkmfdggodinjaaa
open Go.RowKit
set_option linter.unusedVariables false
set_option linter.unusedSimpArgs false

set_option maxHeartbeats 1600000 in
theorem belowQ_any (a : Option Addr) (n c : Nat) (l : List Int) (x : Int) (w : World) (h : Rd w .i64 a n l) (hn : n ≤ 65536) :
    Calls Try.prog 39 #[.slice a n c, .int .i64 x] w fun e w' => e = .returned (.tuple #[.int .i64 (belN l x n), .int .i64 (simN l x n)]) ∧ Drew w w' := by
  have HA := Lib.hid h
  have Hll : Hid (l.length = n) := Lib.hid h.1
  have Hbl := Lib.hid (belN_le l x)
  have Hsl := Lib.hid (simN_le l x)
  have Hlt := Lib.hid (fun k (hk : k < n) h9 => belN_lt (l := l) (x := x) (k := k) (by rw [Hll.out]; exact hk) h9)
  have Hge := Lib.hid (fun k (hk : k < n) h9 => belN_ge (l := l) (x := x) (k := k) (by rw [Hll.out]; exact hk) h9)
  have Heq := Lib.hid (fun k (hk : k < n) h9 => simN_eq (l := l) (x := x) (k := k) (by rw [Hll.out]; exact hk) h9)
  have Hne := Lib.hid (fun k (hk : k < n) h9 => simN_ne (l := l) (x := x) (k := k) (by rw [Hll.out]; exact hk) h9)
  clear h
  go_enter Try.func39, Try.ntmps39
  go_wp2
  go_loopw [6, 7, 8] (fun nv sv k wr => ∃ i : Nat, i ≤ n ∧ k = .int .i64 i ∧ nv = .int .i64 (belN l x i) ∧ sv = .int .i64 (simN l x i) ∧ Hid (Drew w wr)) (fun _ _ k _ => n - (intOf k).toNat)
  case atStart => exact ⟨0, Nat.zero_le _, rfl, by rw [belN_zero]; rfl, by rw [simN_zero]; rfl, Drew.refl _⟩
  case round =>
    obtain ⟨i, hi, rfl, rfl, rfl, hq⟩ := hrel
    obtain ⟨nd, rfl⟩ := hq.out
    by_cases hlt : i < n
    · obtain ⟨ba, oa, rfl, hba, hca⟩ := HA.out.at hlt
      have h1 := Hlt.out i hlt
      have h2 := Hge.out i hlt
      have h3 := Heq.out i hlt
      have h4 := Hne.out i hlt
      have h5 := Hbl.out i
      have h6 := Hsl.out i
      have hi0 : (0 : Int) ≤ (i : Int) := by omega
      have hin : (i : Int) < (n : Int) := by omega
      have E1 : Hid (belN l x (i + 1) = if l[i]?.getD 0 < x then belN l x i + 1 else belN l x i) := Lib.hid (by
        by_cases h9 : l[i]?.getD 0 < x
        · rw [if_pos h9]; exact h1 h9
        · rw [if_neg h9]; exact h2 (by omega))
      have E2 : Hid (simN l x (i + 1) = if l[i]?.getD 0 = x then simN l x i + 1 else simN l x i) := Lib.hid (by
        by_cases h9 : l[i]?.getD 0 = x
        · rw [if_pos h9]; exact h3 h9
        · rw [if_neg h9]; exact h4 h9)
      clear h1 h2 h3 h4
      generalize belN l x i = b0 at *
      generalize simN l x i = s0 at *
      generalize l[i]?.getD 0 = z at *
      have w1 : IntKind.i64.wrap ((b0 : Int) + 1) = (b0 : Int) + 1 := by rw [IntKind.wrap_i64]; omega
      have w2 : IntKind.i64.wrap ((s0 : Int) + 1) = (s0 : Int) + 1 := by rw [IntKind.wrap_i64]; omega
      by_cases hz : z < x
      · have hz2 : ¬ z = x := by omega
        rw [if_pos hz] at E1
        rw [if_neg hz2] at E2
        go_wp2
        go_roundw
        case rel => exact ⟨i + 1, by omega, by go_num, by rw [E1.out]; rfl, by rw [E2.out], Lib.hid ((Drew.refl _).drewN _)⟩
        case measure => first | (simp [intOf]; done) | (simp [intOf]; omega)
      · rw [if_neg hz] at E1
        by_cases hz2 : z = x
        · subst hz2
          rw [if_pos rfl] at E2
          go_wp2
          go_roundw
          case rel => exact ⟨i + 1, by omega, by go_num, by rw [E1.out], by rw [E2.out]; rfl, Lib.hid ((Drew.refl _).drewN _)⟩
          case measure => first | (simp [intOf]; done) | (simp [intOf]; omega)
        · rw [if_neg hz2] at E2
          go_wp2
          go_roundw
          case rel => exact ⟨i + 1, by omega, by go_num, by rw [E1.out], by rw [E2.out], Lib.hid ((Drew.refl _).drewN _)⟩
          case measure => first | (simp [intOf]; done) | (simp [intOf]; omega)
    · obtain rfl : i = n := by omega
      go_wp2
      go_ret2
      exact ⟨rfl, ⟨nd, rfl⟩⟩

set_option maxHeartbeats 1600000 in
theorem At_any (a : Option Addr) (n c : Nat) (l : List Int) (k : Nat) (w : World) (h : Rd w .i64 a n l) (hn : n ≤ 65536) (hk : k < n) :
    Calls Try.prog 18 #[.slice a n c, .int .i64 k] w fun e w' => e = .returned (.int .i64 ((sortI l)[k]?.getD 0)) ∧ Drew w w' := by
  have HA := Lib.hid h
  have Hll : Hid (l.length = n) := Lib.hid h.1
  have HB := Lib.hid (fun x w (h : Rd w .i64 a n l) => belowQ_any a n c l x w h hn)
  have Hbl := Lib.hid (fun x => belN_le l x n)
  have Hsl := Lib.hid (fun x => simN_le l x n)
  have His := Lib.hid (fun i (hs : standsB l k i) => stands_is (l := l) (k := k) (i := i) (by rw [Hll.out]; exact hk) hs)
  have Hex : Hid (∃ i, i < n ∧ standsB l k i) := Lib.hid (by have := stands_ex (l := l) (k := k) (by rw [Hll.out]; exact hk); rw [Hll.out] at this; exact this)
  have Hdf : Hid (∀ i, standsB l k i ↔ belN l (l[i]?.getD 0) n ≤ k ∧ k < belN l (l[i]?.getD 0) n + simN l (l[i]?.getD 0) n) := Lib.hid (fun i => by unfold standsB; rw [Hll.out])
  clear h
  generalize (sortI l)[k]?.getD 0 = X at *
  generalize standsB l k = St at *
  go_enter Try.func18, Try.ntmps18
  go_wp2
  go_loopw [5] (fun kv wr => ∃ i : Nat, i ≤ n ∧ kv = .int .i64 i ∧ Hid (∀ j, j < i → ¬ St j) ∧ Hid (Drew w wr)) (fun kv _ => n - (intOf kv).toNat)
  case atStart => exact ⟨0, Nat.zero_le _, rfl, Lib.hid (fun j hj => by omega), Drew.refl _⟩
  case round =>
    obtain ⟨i, hi, rfl, hno, hq⟩ := hrel
    obtain ⟨nd, rfl⟩ := hq.out
    by_cases hlt : i < n
    · obtain ⟨ba, oa, e', hba, hca⟩ := HA.out.at hlt
      have h5 := Hbl.out (l[i]?.getD 0)
      have h6 := Hsl.out (l[i]?.getD 0)
      have hi0 : (0 : Int) ≤ (i : Int) := by omega
      have hin : (i : Int) < (n : Int) := by omega
      have hd := Lib.hid (Hdf.out i)
      have HBi := Lib.hid (fun w (h : Rd w .i64 a n l) => HB.out (l[i]?.getD 0) w h)
      have HX := Lib.hid (His.out i)
      generalize belN l (l[i]?.getD 0) n = b0 at *
      generalize simN l (l[i]?.getD 0) n = s0 at *
      generalize l[i]?.getD 0 = z at *
      have w1 : IntKind.i64.wrap ((b0 : Int) + (s0 : Int)) = (b0 : Int) + (s0 : Int) := by rw [IntKind.wrap_i64]; omega
      subst e'
      by_cases h1 : (b0 : Int) ≤ (k : Int)
      · by_cases h2 : (k : Int) < (b0 : Int) + (s0 : Int)
        · obtain rfl : z = X := HX.out (hd.out.2 ⟨by omega, by omega⟩)
          go_wp2_with fail
          ((with_reducible refine (HBi.out _ (HA.out.drewN _)).mono ?_); rintro e w5 ⟨rfl, ⟨nd5, rfl⟩⟩)
          go_wp2
          go_ret
          exact ⟨rfl, by first | exact ⟨_, rfl⟩ | (refine Drew.drewN ?_ _; exact ⟨_, rfl⟩)⟩
        · have hs : Hid (¬ St i) := Lib.hid (fun h => by have := hd.out.1 h; omega)
          go_wp2_with fail
          ((with_reducible refine (HBi.out _ (HA.out.drewN _)).mono ?_); rintro e w5 ⟨rfl, ⟨nd5, rfl⟩⟩)
          go_wp2
          go_roundw
          case rel => exact ⟨i + 1, by omega, by go_num, Lib.hid (fun j hj => by rcases Nat.lt_succ_iff_lt_or_eq.1 hj with h | rfl; exact hno.out j h; exact hs.out), Lib.hid (by first | exact ⟨_, rfl⟩ | (refine Drew.drewN ?_ _; exact ⟨_, rfl⟩))⟩
          case measure => first | (simp [intOf]; done) | (simp [intOf]; omega)
      · have hs : Hid (¬ St i) := Lib.hid (fun h => by have := hd.out.1 h; omega)
        go_wp2_with fail
        ((with_reducible refine (HBi.out _ (HA.out.drewN _)).mono ?_); rintro e w5 ⟨rfl, ⟨nd5, rfl⟩⟩)
        go_wp2
        go_roundw
        case rel => exact ⟨i + 1, by omega, by go_num, Lib.hid (fun j hj => by rcases Nat.lt_succ_iff_lt_or_eq.1 hj with h | rfl; exact hno.out j h; exact hs.out), Lib.hid (by first | exact ⟨_, rfl⟩ | (refine Drew.drewN ?_ _; exact ⟨_, rfl⟩))⟩
        case measure => first | (simp [intOf]; done) | (simp [intOf]; omega)
    · obtain rfl : i = n := by omega
      obtain ⟨j, hj, hs⟩ := Hex.out
      exact absurd hs (hno.out j hj)
end Go.Proofs.Ytkmfdggodinjaaa
