/-
  The walk of regattalaw29.ProbeHistograms.
-/
import Derived.Test.YtkmfdggodinjaaaSprD
namespace Go.Proofs.Ytkmfdggodinjaaa
open Go.RowKit
set_option linter.unusedVariables false
set_option linter.unusedSimpArgs false

structure InRowP (w : World) (a : Option Addr) (n c : Nat) (l : List Int) : Prop where
  nc : n ≤ c
  cm : c ≤ 9223372036854775807
  nil : a = none → c = 0
  rd : n ≤ 140737488351232 → Rd w .i64 a n l
  i : A64 l
theorem i64_of_wfP {n : Int} (h : (Lit.int .i64 n).wf = true) : I64 n := by
  have e1 : IntKind.i64.min = -9223372036854775808 := by decide
  have e2 : IntKind.i64.max = 9223372036854775807 := by decide
  simp only [Lit.wf, e1, e2, Bool.and_eq_true, decide_eq_true_eq] at h
  exact h
theorem A64_ofP {l : List Int} (h : ∀ v ∈ l, I64 v) : A64 l := fun i => by
  by_cases hi : i < l.length
  · rw [List.getElem?_eq_getElem hi]; exact h _ (List.getElem_mem hi)
  · rw [List.getElem?_eq_none (by omega)]; unfold I64; simp
theorem inRowP {w : World} {a : Option Addr} {len cap : Nat} {zs : List Int} (h : (a = none ∧ len = 0 ∧ cap = 0 ∧ zs = []) ∨
  ∃ x, a = some x ∧ len ≤ cap ∧ cap ≤ maxLen ∧ zs.length = cap ∧ (∀ i, i < zs.length → w.cell? (x.add i) = some (.int .i64 (zs.getD i 0))) ∧ ∀ n ∈ zs, (Lit.int .i64 n).wf = true) : InRowP w a len cap (zs.take len) := by
  rcases h with ⟨rfl, rfl, rfl, rfl⟩ | ⟨x, rfl, hl, hm, hz, hc, hw⟩
  · exact ⟨Nat.le_refl _, by omega, fun _ => rfl, fun _ => Rd.empty _ _ _, A64_ofP (by simp)⟩
  · exact ⟨hl, by unfold maxLen at hm; exact hm, fun h => (by cases h), fun hn => rd_of_cells hl hz hc hn, A64_ofP (fun v hv => i64_of_wfP (hw v (List.mem_of_mem_take hv)))⟩

theorem sumI_takeP (l : List Int) : ∀ k, sumI l k = (l.take k).sum
  | 0 => by simp [sumI]
  | k + 1 => by
    simp only [sumI]
    rw [sumI_takeP l k]
    by_cases h : k < l.length
    · rw [List.take_succ_eq_append_getElem h, List.sum_append]
      simp [List.getElem?_eq_getElem h]
    · rw [List.take_of_length_le (by omega), List.take_of_length_le (by omega), List.getElem?_eq_none (by omega)]
      simp
theorem sumI_len {l : List Int} {n : Nat} (h : l.length = n) : sumI l n = l.sum := by rw [sumI_takeP, List.take_of_length_le (by omega)]
theorem sumI_le {l : List Int} {b : Nat} (h : ∀ i : Nat, 0 ≤ l[i]?.getD 0 ∧ l[i]?.getD 0 ≤ b) : ∀ k : Nat, 0 ≤ sumI l k ∧ sumI l k ≤ (k : Int) * (b : Int)
  | 0 => by simp [sumI]
  | k + 1 => by
    have h1 := sumI_le h k
    have h2 := h k
    simp only [sumI]
    rw [show (((k + 1 : Nat)) : Int) = (k : Int) + 1 by simp, Int.add_mul, Int.one_mul]
    omega

set_option maxHeartbeats 4000000 in
set_option maxRecDepth 100000 in
theorem hist_walk (a : Option Addr) (n c : Nat) (l : List Int) (low high nb : Int) (w : World) (hL : InRowP w a n c l) (il : I64 low) (ih : I64 high) (inb : I64 nb) :
    Calls Try.prog 3 #[.slice a n c, .agg #[.int .i64 low, .int .i64 high, .int .i64 nb]] w fun e w' => e = .returned (.bool true) ∧ Below w.heap.size w w' := by
  have hnm : n ≤ 9223372036854775807 := by have := hL.nc; have := hL.cm; omega
  have HAw := Lib.hid (fun w => awake_any w)
  by_cases h300 : n ≤ 300
  · have hn3 : ¬ ((300 : Int) < (n : Int)) := by omega
    have hr := hL.rd (by omega)
    by_cases hbad : nb < 1 ∨ ¬ nb < 1 ∧ 64 < nb ∨ ¬ nb < 1 ∧ ¬ 64 < nb ∧ high ≤ low
    · have HB := Lib.hid (fun w => Histogram_bad a n c low high nb w (by omega) hbad)
      clear hL hr
      rcases hbad with k1 | ⟨k1, k2⟩ | ⟨k1, k2, k3⟩
      all_goals
        go_enter Try.func3, Try.ntmps3
        go_wp2_with fail
        ((with_reducible refine (HAw.out _).mono ?_); rintro e w1 ⟨rfl, hb1⟩)
        obtain ⟨hc1, hf1⟩ := bcell hb1
        have hz1 := hb1.size
        (try simp at hz1 hc1 hf1)
        have b0 : w1.cell? ⟨w.heap.size, 0, none⟩ = some (.int .i64 low) := by rw [hc1 _ _ (by omega)]; go_simp
        have b1 : w1.cell? ⟨w.heap.size, 1, none⟩ = some (.int .i64 high) := by rw [hc1 _ _ (by omega)]; go_simp
        have b2 : w1.cell? ⟨w.heap.size, 2, none⟩ = some (.int .i64 nb) := by rw [hc1 _ _ (by omega)]; go_simp
        have Hb1 : Hid (Below w.heap.size w w1) := Lib.hid (by (repeat first | assumption | exact Below.refl _ _ | refine Below.drew ?_ | refine Below.drewN ?_ _ | refine Below.alloc ?_ (by (first | omega | (simp; done) | (simp; omega))) _ | refine Below.setCell ?_ (by (first | omega | (simp; done) | (simp; omega))) _ | refine Below.trans ?_ (Below.mono (by assumption) (by (first | omega | (simp; done) | (simp; omega))))))
        clear hb1 hc1 hf1
        go_wp2_with fail
        ((with_reducible refine (HB.out _).mono ?_); rintro e w2 ⟨rfl, rfl⟩)
        go_wp2
        go_ret
        exact ⟨rfl, Hb1.out⟩
    · obtain ⟨bins, rfl⟩ : ∃ bins : Nat, nb = (bins : Int) := ⟨nb.toNat, by omega⟩
      have hb1' : 1 ≤ bins := by omega
      have hb2' : bins ≤ 64 := by omega
      have hlh : low < high := by omega
      have HH := Lib.hid (fun w' (hb : Below w.heap.size w w') => Histogram_any a n c l low high bins w' (hr.kept hb) (by omega) hL.i il ih hlh hb1' hb2')
      have HPl0 := Lib.hid (fun w' (hb : Below w.heap.size w w') => Plain_any a n c l w' (hr.kept hb) (by omega))
      have HRh := Lib.hid (fun a5 c5 w' (h : Rd w' .i64 a5 n l) => rHist_any a5 n c5 l low high bins w' h (by omega) hL.i il ih hlh hb1' hb2')
      have Hsum := Lib.hid (histL_sum l low high hb1' n)
      have Hhl := Lib.hid (histL_len l low high bins n)
      have Hhb := Lib.hid (histL_bd l low high bins n)
      have Hll : Hid (l.length = n) := Lib.hid hr.1
      have g1 : ¬ ((bins : Int) < 1) := by omega
      have g2 : ¬ ((64 : Int) < (bins : Int)) := by omega
      have g3 : ¬ (high ≤ low) := by omega
      clear hL hr hbad il ih inb hlh
      generalize histL l low high bins n = H at *
      go_enter Try.func3, Try.ntmps3
      go_wp2_with fail
      ((with_reducible refine (HAw.out _).mono ?_); rintro e w1 ⟨rfl, hb1⟩)
      obtain ⟨hc1, hf1⟩ := bcell hb1
      have hz1 := hb1.size
      (try simp at hz1 hc1 hf1)
      have b0 : w1.cell? ⟨w.heap.size, 0, none⟩ = some (.int .i64 low) := by rw [hc1 _ _ (by omega)]; go_simp
      have b1 : w1.cell? ⟨w.heap.size, 1, none⟩ = some (.int .i64 high) := by rw [hc1 _ _ (by omega)]; go_simp
      have b2 : w1.cell? ⟨w.heap.size, 2, none⟩ = some (.int .i64 (bins : Int)) := by rw [hc1 _ _ (by omega)]; go_simp
      have Hb1 : Hid (Below w.heap.size w w1) := Lib.hid (by (repeat first | assumption | exact Below.refl _ _ | refine Below.drew ?_ | refine Below.drewN ?_ _ | refine Below.alloc ?_ (by (first | omega | (simp; done) | (simp; omega))) _ | refine Below.setCell ?_ (by (first | omega | (simp; done) | (simp; omega))) _ | refine Below.trans ?_ (Below.mono (by assumption) (by (first | omega | (simp; done) | (simp; omega))))))
      have lw1 : w.heap.size < w1.heap.size := by omega
      clear hb1 hc1 hf1 HAw
      go_wp2_with fail
      ((with_reducible refine (HH.out _ Hb1.out).mono ?_); rintro e w2 ⟨g, rfl, hr2, hb2⟩)
      have b0' : w2.cell? ⟨w.heap.size, 0, none⟩ = some (.int .i64 low) := (hb2.cell (p := ⟨w.heap.size, 0, none⟩) lw1).trans b0
      have b1' : w2.cell? ⟨w.heap.size, 1, none⟩ = some (.int .i64 high) := (hb2.cell (p := ⟨w.heap.size, 1, none⟩) lw1).trans b1
      have b2' : w2.cell? ⟨w.heap.size, 2, none⟩ = some (.int .i64 (bins : Int)) := (hb2.cell (p := ⟨w.heap.size, 2, none⟩) lw1).trans b2
      have Hb2 : Hid (Below w.heap.size w w2) := Lib.hid (Hb1.out.trans (hb2.mono (Nat.le_of_lt lw1)))
      have Hr3 := Lib.hid hr2
      have lw2 : w.heap.size < w2.heap.size := Nat.lt_of_lt_of_le lw1 hb2.size
      clear hb2 hr2 b0 b1 b2
      go_wp2
      go_loopw [7, 50] (fun sv jv wr => ∃ k : Nat, k ≤ bins + 2 ∧ jv = .int .i64 k ∧ sv = .int .i64 (sumI H k) ∧ Hid (w2 = wr)) (fun _ jv _ => bins + 2 - (intOf jv).toNat)
      case atStart => exact ⟨0, Nat.zero_le _, rfl, rfl, rfl⟩
      case round =>
        obtain ⟨k, hk, rfl, rfl, hwr⟩ := hrel
        obtain rfl := hwr.out
        by_cases hlt : k < bins + 2
        · obtain ⟨ba, oa, e', hba, hca⟩ := Hr3.out.at hlt
          cases e'
          rw [Nat.zero_add] at hca
          have hsb := Lib.hid (sumI_le Hhb.out k)
          have hs1 : Hid (sumI H (k + 1) = sumI H k + H[k]?.getD 0) := Lib.hid rfl
          have hzb := Hhb.out k
          have hws : IntKind.i64.wrap (sumI H k + H[k]?.getD 0) = sumI H k + H[k]?.getD 0 := by
            have := hsb.out
            have h5 : (k : Int) * (n : Int) ≤ 66 * 300 := Int.mul_le_mul (by omega) (by omega) (by omega) (by omega)
            rw [IntKind.wrap_i64]; omega
          have hk0 : (0 : Int) ≤ (k : Int) := by omega
          have hkb : (k : Int) < (bins : Int) + 2 := by omega
          generalize sumI H k = T at *
          generalize H[k]?.getD 0 = z at *
          go_wp2
          go_roundw
          case rel => exact ⟨k + 1, by omega, by go_num, by rw [hs1.out], Lib.hid (by first | rfl | trivial)⟩
          case measure => first | (simp [intOf]; done) | (simp [intOf]; omega)
        · obtain rfl : k = bins + 2 := by omega
          rw [sumI_len Hhl.out, Hsum.out]
          rename World => wr
          have HPl := Lib.hid (fun w' (hb : Below wr.heap.size wr w') => HPl0.out w' (Hb2.out.trans (hb.mono (Nat.le_of_lt lw2))))
          have b0 := b0'
          have b1 := b1'
          have b2 := b2'
          have lw := lw2
          clear b0' b1' b2' HPl0 HH
          go_wp2
          refine wp_region_held_drew (S := (fun w' => w'.cell? ⟨w.heap.size, 0, none⟩ = some (.int .i64 low) ∧ w'.cell? ⟨w.heap.size, 1, none⟩ = some (.int .i64 high) ∧ w'.cell? ⟨w.heap.size, 2, none⟩ = some (.int .i64 (bins : Int)))) (by kernel_rfl) ?_ (fun hHeld => ?_)
          · exact ⟨b0, b1, b2⟩
          refine tkW (v := ?_) 0 rfl (by kernel_rfl) (by kernel_rfl) (by kernel_rfl) (fun _ _ _ h => h) (by rfl) (by assumption) ?_ ?_
          rotate_left
          · intro w' hSw; obtain ⟨s0, s1, s2⟩ := hSw; go_simp; (try with_reducible rfl)
          (try simp only [Act.put, List.setIfInBounds_toArray, List.set_cons_zero, List.set_cons_succ])
          refine tkW (v := .bool true) 1 rfl (by kernel_rfl) (by kernel_rfl) (by kernel_rfl) (fun _ _ _ h => h) (by rfl) (by assumption) ?_ ?_
          · intro w' hSw; obtain ⟨s0, s1, s2⟩ := hSw; go_simp; (try with_reducible rfl)
          (try simp only [Act.put, List.setIfInBounds_toArray, List.set_cons_zero, List.set_cons_succ])
          refine tkW (v := ?_) 2 rfl (by kernel_rfl) (by kernel_rfl) (by kernel_rfl) (fun _ _ _ h => h) (by rfl) (by assumption) ?_ ?_
          rotate_left
          · intro w' hSw; obtain ⟨s0, s1, s2⟩ := hSw; go_simp; (try with_reducible rfl)
          (try simp only [Act.put, List.setIfInBounds_toArray, List.set_cons_zero, List.set_cons_succ])
          refine tkW (v := ?_) 3 rfl (by kernel_rfl) (by kernel_rfl) (by kernel_rfl) (fun _ _ _ h => h) (by rfl) (by assumption) ?_ ?_
          rotate_left
          · intro w' hSw; obtain ⟨s0, s1, s2⟩ := hSw; go_simp; (try with_reducible rfl)
          (try simp only [Act.put, List.setIfInBounds_toArray, List.set_cons_zero, List.set_cons_succ])
          refine tkW (v := ?_) 4 rfl (by kernel_rfl) (by kernel_rfl) (by kernel_rfl) (fun _ _ _ h => h) (by rfl) (by assumption) ?_ ?_
          rotate_left
          · intro w' hSw; obtain ⟨s0, s1, s2⟩ := hSw; go_simp; (try with_reducible rfl)
          (try simp only [Act.put, List.setIfInBounds_toArray, List.set_cons_zero, List.set_cons_succ])
          refine tkW (v := ?_) 5 rfl (by kernel_rfl) (by kernel_rfl) (by kernel_rfl) (fun _ _ _ h => h) (by rfl) (by assumption) ?_ ?_
          rotate_left
          · intro w' hSw; obtain ⟨s0, s1, s2⟩ := hSw; go_simp; (try with_reducible rfl)
          (try simp only [Act.put, List.setIfInBounds_toArray, List.set_cons_zero, List.set_cons_succ])
          refine tkW (v := .bool true) 6 rfl (by kernel_rfl) (by kernel_rfl) (by kernel_rfl) (fun _ _ _ h => h) (by rfl) (by assumption) ?_ ?_
          · intro w' hSw; obtain ⟨s0, s1, s2⟩ := hSw; go_simp; (try with_reducible rfl)
          (try simp only [Act.put, List.setIfInBounds_toArray, List.set_cons_zero, List.set_cons_succ])
          refine tkW (v := ?_) 7 rfl (by kernel_rfl) (by kernel_rfl) (by kernel_rfl) (fun _ _ _ h => h) (by rfl) (by assumption) ?_ ?_
          rotate_left
          · intro w' hSw; obtain ⟨s0, s1, s2⟩ := hSw; go_simp; (try with_reducible rfl)
          (try simp only [Act.put, List.setIfInBounds_toArray, List.set_cons_zero, List.set_cons_succ])
          refine tkW (v := ?_) 8 rfl (by kernel_rfl) (by kernel_rfl) (by kernel_rfl) (fun _ _ _ h => h) (by rfl) (by assumption) ?_ ?_
          rotate_left
          · intro w' hSw; obtain ⟨s0, s1, s2⟩ := hSw; go_simp; (try with_reducible rfl)
          (try simp only [Act.put, List.setIfInBounds_toArray, List.set_cons_zero, List.set_cons_succ])
          refine tkW (v := ?_) 9 rfl (by kernel_rfl) (by kernel_rfl) (by kernel_rfl) (fun _ _ _ h => h) (by rfl) (by assumption) ?_ ?_
          rotate_left
          · intro w' hSw; obtain ⟨s0, s1, s2⟩ := hSw; go_simp; (try with_reducible rfl)
          (try simp only [Act.put, List.setIfInBounds_toArray, List.set_cons_zero, List.set_cons_succ])
          refine tkW (v := ?_) 10 rfl (by kernel_rfl) (by kernel_rfl) (by kernel_rfl) (fun _ _ _ h => h) (by rfl) (by assumption) ?_ ?_
          rotate_left
          · intro w' hSw; obtain ⟨s0, s1, s2⟩ := hSw; go_simp; (try with_reducible rfl)
          (try simp only [Act.put, List.setIfInBounds_toArray, List.set_cons_zero, List.set_cons_succ])
          refine tkW (v := ?_) 12 rfl (by kernel_rfl) (by kernel_rfl) (by kernel_rfl) (fun _ _ _ h => h) (by rfl) (by assumption) ?_ ?_
          rotate_left
          · intro w' hSw; obtain ⟨s0, s1, s2⟩ := hSw; go_simp; (try with_reducible rfl)
          (try simp only [Act.put, List.setIfInBounds_toArray, List.set_cons_zero, List.set_cons_succ])
          refine tkW (v := ?_) 13 rfl (by kernel_rfl) (by kernel_rfl) (by kernel_rfl) (fun _ _ _ h => h) (by rfl) (by assumption) ?_ ?_
          rotate_left
          · intro w' hSw; obtain ⟨s0, s1, s2⟩ := hSw; go_simp; (try with_reducible rfl)
          (try simp only [Act.put, List.setIfInBounds_toArray, List.set_cons_zero, List.set_cons_succ])
          refine tkW (v := ?_) 14 rfl (by kernel_rfl) (by kernel_rfl) (by kernel_rfl) (fun _ _ _ h => h) (by rfl) (by assumption) ?_ ?_
          rotate_left
          · intro w' hSw; obtain ⟨s0, s1, s2⟩ := hSw; go_simp; (try with_reducible rfl)
          (try simp only [Act.put, List.setIfInBounds_toArray, List.set_cons_zero, List.set_cons_succ])
          refine tkW (v := ?_) 15 rfl (by kernel_rfl) (by kernel_rfl) (by kernel_rfl) (fun _ _ _ h => h) (by rfl) (by assumption) ?_ ?_
          rotate_left
          · intro w' hSw; obtain ⟨s0, s1, s2⟩ := hSw; go_simp; (try with_reducible rfl)
          (try simp only [Act.put, List.setIfInBounds_toArray, List.set_cons_zero, List.set_cons_succ])
          refine tkW (v := ?_) 16 rfl (by kernel_rfl) (by kernel_rfl) (by kernel_rfl) (fun _ _ _ h => h) (by rfl) (by assumption) ?_ ?_
          rotate_left
          · intro w' hSw; obtain ⟨s0, s1, s2⟩ := hSw; go_simp; (try with_reducible rfl)
          (try simp only [Act.put, List.setIfInBounds_toArray, List.set_cons_zero, List.set_cons_succ])
          refine tkW (v := ?_) 17 rfl (by kernel_rfl) (by kernel_rfl) (by kernel_rfl) (fun _ _ _ h => h) (by rfl) (by assumption) ?_ ?_
          rotate_left
          · intro w' hSw; obtain ⟨s0, s1, s2⟩ := hSw; go_simp; (try with_reducible rfl)
          (try simp only [Act.put, List.setIfInBounds_toArray, List.set_cons_zero, List.set_cons_succ])
          refine tkC 11 rfl (by kernel_rfl) (by rfl) (fun KK hK => ?_)
          go_simp
          (go_at_call 12; refine (HPl.out _ (Below.drew (Below.refl _ _))).mono ?_; rintro e w5 ⟨v5, rfl, ho5, hb5⟩)
          have hb5d : Below wr.heap.size wr w5 := Below.trans (Below.drew (Below.refl _ _)) hb5
          unfold Ow at ho5
          rw [Hll.out] at ho5
          obtain ⟨a5, c5, rfl, _, _⟩ := ownsRow_form ho5
          have hr5 := Ow.rd (n := n) (a := a5) (c := c5) (Ow.of ho5) (by omega)
          (try dsimp only)
          refine hK.out _ _ ?_ (fun hHeld => ?_)
          · exact ⟨(hb5d.cell (p := ⟨w.heap.size, 0, none⟩) lw).trans b0, (hb5d.cell (p := ⟨w.heap.size, 1, none⟩) lw).trans b1, (hb5d.cell (p := ⟨w.heap.size, 2, none⟩) lw).trans b2⟩
          clear hK KK
          (try simp only [Act.put, List.setIfInBounds_toArray, List.set_cons_zero, List.set_cons_succ])
          refine tkC 18 rfl (by kernel_rfl) (by rfl) (fun KK hK => ?_)
          go_simp
          (go_at_call 11; refine (HRh.out _ _ _ hr5).mono ?_; rintro e w6 ⟨g6, rfl, hr6, hb6⟩)
          have hb6d : Below wr.heap.size wr w6 := hb5d.trans (hb6.mono hb5d.size)
          (try dsimp only)
          refine hK.out _ _ ?_ (fun hHeld => ?_)
          · exact ⟨(hb6d.cell (p := ⟨w.heap.size, 0, none⟩) lw).trans b0, (hb6d.cell (p := ⟨w.heap.size, 1, none⟩) lw).trans b1, (hb6d.cell (p := ⟨w.heap.size, 2, none⟩) lw).trans b2⟩
          clear hK KK
          (try simp only [Act.put, List.setIfInBounds_toArray, List.set_cons_zero, List.set_cons_succ])
          refine tkC 19 rfl (by kernel_rfl) (by rfl) (fun KK hK => ?_)
          go_simp
          (go_at_call 10; refine (same6_any _ _ _ _ _ _ _ (Hr3.out.kept hb6d) hr6).mono ?_; rintro e w7 ⟨rfl, ⟨nd7, rfl⟩⟩)
          have hb7d : Below wr.heap.size wr (w6.drewN nd7) := Go.Proofs.Ytkmfdggodinjaaa.Below.drewN hb6d _
          (try dsimp only)
          refine hK.out _ _ ?_ (fun hHeld => ?_)
          · exact ⟨(hb7d.cell (p := ⟨w.heap.size, 0, none⟩) lw).trans b0, (hb7d.cell (p := ⟨w.heap.size, 1, none⟩) lw).trans b1, (hb7d.cell (p := ⟨w.heap.size, 2, none⟩) lw).trans b2⟩
          clear hK KK
          (try simp only [Act.put, List.setIfInBounds_toArray, List.set_cons_zero, List.set_cons_succ])
          refine tkW (v := ?_) 20 rfl (by kernel_rfl) (by kernel_rfl) (by kernel_rfl) (fun _ _ _ h => h) (by rfl) (by assumption) ?_ ?_
          rotate_left
          · intro w' hSw; obtain ⟨s0, s1, s2⟩ := hSw; go_simp; (try with_reducible rfl)
          (try simp only [Act.put, List.setIfInBounds_toArray, List.set_cons_zero, List.set_cons_succ])
          refine tkW (v := ?_) 21 rfl (by kernel_rfl) (by kernel_rfl) (by kernel_rfl) (fun _ _ _ h => h) (by rfl) (by assumption) ?_ ?_
          rotate_left
          · intro w' hSw; obtain ⟨s0, s1, s2⟩ := hSw; go_simp; (try with_reducible rfl)
          (try simp only [Act.put, List.setIfInBounds_toArray, List.set_cons_zero, List.set_cons_succ])
          refine wpAnyH_done (by kernel_rfl) ?_ _
          go_wp2
          go_ret
          exact ⟨rfl, Hb2.out.trans (hb7d.mono (Nat.le_of_lt lw))⟩
  · have hn3 : (300 : Int) < (n : Int) := by omega
    clear hL
    go_enter Try.func3, Try.ntmps3
    go_wp2_with fail
    ((with_reducible refine (HAw.out _).mono ?_); rintro e w1 ⟨rfl, hb1⟩)
    have Hb1 : Hid (Below w.heap.size w w1) := Lib.hid (by (repeat first | assumption | exact Below.refl _ _ | refine Below.drew ?_ | refine Below.drewN ?_ _ | refine Below.alloc ?_ (by (first | omega | (simp; done) | (simp; omega))) _ | refine Below.setCell ?_ (by (first | omega | (simp; done) | (simp; omega))) _ | refine Below.trans ?_ (Below.mono (by assumption) (by (first | omega | (simp; done) | (simp; omega))))))
    clear hb1
    go_wp2
    go_ret
    exact ⟨rfl, Hb1.out⟩
end Go.Proofs.Ytkmfdggodinjaaa
