/-
  Layer probe: how many numbers stand where.
-/
import Derived.Test.YtkmfdggodinjaaaProbT
namespace Go.Proofs.Ytkmfdggodinjaaa
open Go.RowKit
set_option linter.unusedVariables false
set_option linter.unusedSimpArgs false

def hixN (x low high : Int) (bins : Nat) : Nat := if x < low then 0 else if high ≤ x then bins + 1 else 1 + binN x low high bins
theorem hixN_lt {x low high : Int} {bins : Nat} (hb : 1 ≤ bins) : hixN x low high bins < bins + 2 := by
  unfold hixN
  split
  · omega
  · split
    · omega
    · have := (binN_spec (x := x) (low := low) (high := high) (bins := bins) (by omega) (by omega) hb).1
      omega
def bump (h : List Int) (i : Nat) : List Int := h.set i (h[i]?.getD 0 + 1)
def histL (l : List Int) (low high : Int) (bins : Nat) : Nat → List Int
  | 0 => List.replicate (bins + 2) 0
  | k + 1 => bump (histL l low high bins k) (hixN (l[k]?.getD 0) low high bins)
theorem histL_len (l : List Int) (low high : Int) (bins : Nat) : ∀ k, (histL l low high bins k).length = bins + 2
  | 0 => by simp [histL]
  | k + 1 => by simp [histL, bump, histL_len l low high bins k]
theorem bump_bd {h : List Int} {k : Int} (hh : ∀ i : Nat, 0 ≤ h[i]?.getD 0 ∧ h[i]?.getD 0 ≤ k) (j i : Nat) : 0 ≤ (bump h j)[i]?.getD 0 ∧ (bump h j)[i]?.getD 0 ≤ k + 1 := by
  unfold bump
  rw [List.getElem?_set]
  have h1 := hh i
  have h2 := hh j
  split
  · split
    · simp; omega
    · simp; have := hh j; omega
  · omega
theorem histL_bd (l : List Int) (low high : Int) (bins : Nat) : ∀ (k i : Nat), 0 ≤ (histL l low high bins k)[i]?.getD 0 ∧ (histL l low high bins k)[i]?.getD 0 ≤ k
  | 0, i => by
    simp only [histL, List.getElem?_replicate]
    split <;> simp
  | k + 1, i => by
    have := bump_bd (histL_bd l low high bins k) (hixN (l[k]?.getD 0) low high bins) i
    simpa [histL] using this
theorem sum_set : ∀ (h : List Int) (i : Nat) (v : Int), i < h.length → (h.set i v).sum = h.sum - h[i]?.getD 0 + v
  | [], i, v, hi => by simp at hi
  | a :: h, 0, v, _ => by simp; omega
  | a :: h, i + 1, v, hi => by
    have := sum_set h i v (by simpa using hi)
    simp only [List.set_cons_succ, List.sum_cons, List.getElem?_cons_succ]
    omega
theorem histL_sum (l : List Int) (low high : Int) {bins : Nat} (hb : 1 ≤ bins) : ∀ k, (histL l low high bins k).sum = k
  | 0 => by
    have : ∀ n : Nat, (List.replicate n (0 : Int)).sum = 0 := fun n => by induction n with
      | zero => rfl
      | succ n ih => rw [List.replicate_succ, List.sum_cons, ih]; rfl
    simp only [histL]
    exact this _
  | k + 1 => by
    simp only [histL, bump]
    rw [sum_set _ _ _ (by rw [histL_len]; exact hixN_lt hb), histL_sum l low high hb k]
    simp
    omega

theorem eIn : Elem Try.prog 27 3 1 8 (.int .i64 0) := ⟨Try.underlying27, by kernel_rfl, rfl, by omega⟩
theorem eIn1 : ∃ i0, Try.prog.info? 3 = some i0 ∧ i0.zero = some (.int .i64 0) ∧ i0.size = 1 ∧ i0.bytes = 8 := info_parts eIn.inf

set_option maxHeartbeats 800000 in
theorem Histogram_bad (a : Option Addr) (n c : Nat) (low high bins : Int) (w : World) (hn : n ≤ 65536) (hbad : bins < 1 ∨ ¬ bins < 1 ∧ 64 < bins ∨ ¬ bins < 1 ∧ ¬ 64 < bins ∧ high ≤ low) :
    Calls Try.prog 9 #[.slice a n c, .int .i64 low, .int .i64 high, .int .i64 bins] w fun e w' => e = .returned (.tuple #[.slice none 0 0, .int .i64 2]) ∧ w = w' := by
  have hn2 : ¬ ((65536 : Int) < (n : Int)) := by omega
  rcases hbad with k1 | ⟨k1, k2⟩ | ⟨k1, k2, k3⟩
  all_goals
    go_enter Try.func9, Try.ntmps9
    go_wp2
    go_ret2
    exact ⟨rfl, rfl⟩

set_option maxHeartbeats 3200000 in
set_option maxRecDepth 100000 in
theorem Histogram_any (a : Option Addr) (n c : Nat) (l : List Int) (low high : Int) (bins : Nat) (w : World) (h : Rd w .i64 a n l) (hn : n ≤ 65536) (ia : A64 l) (il : I64 low) (ih : I64 high) (hlh : low < high) (hb : 1 ≤ bins) (hb2 : bins ≤ 64) :
    Calls Try.prog 9 #[.slice a n c, .int .i64 low, .int .i64 high, .int .i64 bins] w fun e w' => ∃ g, e = .returned (.tuple #[.slice (some ⟨g, 0, none⟩) (bins + 2) (bins + 2), .int .i64 0]) ∧ Rd w' .i64 (some ⟨g, 0, none⟩) (bins + 2) (histL l low high bins n) ∧ Below w.heap.size w w' := by
  have HA := Lib.hid (fun w' (hb' : Below w.heap.size w w') => h.kept hb')
  have HBi := Lib.hid (fun x w (ix : I64 x) (h1 : low ≤ x) (h2 : x < high) => bin_any x low high bins w ix il ih h1 h2 hb hb2)
  have IA := Lib.hid ia
  have Hbl := Lib.hid (histL_bd l low high bins)
  have Hll := Lib.hid (histL_len l low high bins)
  have HS : Hid (∀ k, histL l low high bins (k + 1) = bump (histL l low high bins k) (hixN (l[k]?.getD 0) low high bins)) := Lib.hid (fun k => rfl)
  have H0 : Hid (histL l low high bins 0 = List.replicate (bins + 2) 0) := Lib.hid rfl
  have HX : Hid (∀ x, hixN x low high bins < bins + 2) := Lib.hid (fun x => hixN_lt hb)
  obtain ⟨i0, hi0, hz0, hz1, hz2⟩ := eIn1
  have hn2 : ¬ ((65536 : Int) < (n : Int)) := by omega
  have hb1i : ¬ ((bins : Int) < 1) := by omega
  have hb2i : ¬ ((64 : Int) < (bins : Int)) := by omega
  have hlh2 : ¬ (high ≤ low) := by omega
  have hwb : IntKind.i64.wrap ((bins : Int) + 2) = (bins : Int) + 2 := by rw [IntKind.wrap_i64]; omega
  have hwb1 : IntKind.i64.wrap ((bins : Int) + 1) = (bins : Int) + 1 := by rw [IntKind.wrap_i64]; omega
  clear h ia
  go_enter Try.func9, Try.ntmps9
  go_wp2_with (at_make; refine wpList_make_full _ rfl _ _ 27 rfl w.heap.size 3 i0 (.int .i64 0) 1 eIn.und hi0 hz0 hz1 _ _ _ _ (bins + 2) rfl rfl (by simp) (by simp) ?b1 ?b2 ?b3 ?_)
  case b1 => first | omega | (rw [hz2]; omega)
  case b2 => unfold maxLen; omega
  intro w2 hown hg
  clear hi0 hz0 hz1 hz2
  rw [toList_madeCells_one] at hown
  have Hb2 : Hid (Below w.heap.size w w2) := Lib.hid ⟨hg.os, hg.tape, hg.output, hg.size, fun k hk => hg.block k hk (by simp)⟩
  have Ho2 : Hid (w2.ownsRow w.heap.size 3 1 (.slice (some ⟨w.heap.size, 0, none⟩) (bins + 2) (bins + 2)) (bins + 2) ((histL l low high bins 0).map (Value.int .i64))) := Lib.hid (by rw [H0.out]; simpa using hown)
  clear hown hg
  go_wp2
  go_loopw [34] (fun jv wr => ∃ k : Nat, k ≤ n ∧ jv = .int .i64 k ∧ Hid (wr.ownsRow w.heap.size 3 1 (.slice (some ⟨w.heap.size, 0, none⟩) (bins + 2) (bins + 2)) (bins + 2) ((histL l low high bins k).map (Value.int .i64))) ∧ Hid (Below w.heap.size w wr)) (fun jv _ => n - (intOf jv).toNat)
  case atStart => exact ⟨0, Nat.zero_le _, rfl, Ho2.out, Hb2.out⟩
  case round =>
    obtain ⟨k, hk, rfl, hown, hbb⟩ := hrel
    have hzr := hbb.out.size
    by_cases hlt : k < n
    · obtain ⟨ba, oa, rfl, hba, hca⟩ := (HA.out _ hbb.out).at hlt
      have Hs := Lib.hid (HS.out k)
      have hix := HX.out (l[k]?.getD 0)
      have ix := IA.out k
      have hk0 : (0 : Int) ≤ (k : Int) := by omega
      have hkn : (k : Int) < (n : Int) := by omega
      have HE : Hid (hixN (l[k]?.getD 0) low high bins = if l[k]?.getD 0 < low then 0 else if high ≤ l[k]?.getD 0 then bins + 1 else 1 + binN (l[k]?.getD 0) low high bins) := Lib.hid rfl
      generalize l[k]?.getD 0 = x at *
      have ca : wr.cell? ⟨ba, oa + k, none⟩ = some (.int .i64 x) := hca
      by_cases hx1 : x < low
      · rw [if_pos hx1] at HE
        have hiN : 0 < bins + 2 := by omega
        have c6 := World.ownsRow.cellAt (hown).out (0) (by omega)
        have f6 := World.ownsRow.frozenAt (hown).out (0)
        have hzb := Hbl.out k (0)
        have hcell : wr.cell? ⟨w.heap.size, 0, none⟩ = some (.int .i64 ((histL l low high bins k)[0]?.getD 0)) := by
          rw [c6, List.getElem?_map, List.getElem?_eq_getElem (by rw [Hll.out]; omega)]
          rfl
        have HO : Hid ((wr.setCell ⟨w.heap.size, 0, none⟩ (.int .i64 ((histL l low high bins k)[0]?.getD 0 + 1))).ownsRow w.heap.size 3 1 (.slice (some ⟨w.heap.size, 0, none⟩) (bins + 2) (bins + 2)) (bins + 2) ((histL l low high bins (k + 1)).map (Value.int .i64))) := Lib.hid (by
          have h := ownsRow_set (hown).out hiN (.int .i64 ((histL l low high bins k)[0]?.getD 0 + 1))
          rw [set_map] at h
          rw [Hs.out, HE.out]
          exact h)
        clear c6
        generalize (histL l low high bins k)[0]?.getD 0 = z at *
        have hwz : IntKind.i64.wrap (z + 1) = z + 1 := by rw [IntKind.wrap_i64]; omega
        have HB : Hid (Below w.heap.size w (wr.setCell ⟨w.heap.size, 0, none⟩ (.int .i64 (z + 1)))) := Lib.hid (hbb.out.setCell (Nat.le_refl _) _)
        clear hown
        go_wp2
        go_roundw
        case rel => exact ⟨k + 1, by omega, by go_num, HO.out, HB.out⟩
        case measure => first | (simp [intOf]; done) | (simp [intOf]; omega)
      · rw [if_neg hx1] at HE
        by_cases hx2 : high ≤ x
        · rw [if_pos hx2] at HE
          have hii : ((bins + 1 : Nat) : Int) = (bins : Int) + 1 := by simp
          have hiN : bins + 1 < bins + 2 := by omega
          have c6 := World.ownsRow.cellAt (hown).out (bins + 1) (by omega)
          have f6 := World.ownsRow.frozenAt (hown).out (bins + 1)
          have hzb := Hbl.out k (bins + 1)
          have hcell : wr.cell? ⟨w.heap.size, bins + 1, none⟩ = some (.int .i64 ((histL l low high bins k)[bins + 1]?.getD 0)) := by
            rw [c6, List.getElem?_map, List.getElem?_eq_getElem (by rw [Hll.out]; omega)]
            rfl
          have HO : Hid ((wr.setCell ⟨w.heap.size, bins + 1, none⟩ (.int .i64 ((histL l low high bins k)[bins + 1]?.getD 0 + 1))).ownsRow w.heap.size 3 1 (.slice (some ⟨w.heap.size, 0, none⟩) (bins + 2) (bins + 2)) (bins + 2) ((histL l low high bins (k + 1)).map (Value.int .i64))) := Lib.hid (by
            have h := ownsRow_set (hown).out hiN (.int .i64 ((histL l low high bins k)[bins + 1]?.getD 0 + 1))
            rw [set_map] at h
            rw [Hs.out, HE.out]
            exact h)
          clear c6
          generalize (histL l low high bins k)[bins + 1]?.getD 0 = z at *
          have hwz : IntKind.i64.wrap (z + 1) = z + 1 := by rw [IntKind.wrap_i64]; omega
          have HB : Hid (Below w.heap.size w (wr.setCell ⟨w.heap.size, bins + 1, none⟩ (.int .i64 (z + 1)))) := Lib.hid (hbb.out.setCell (Nat.le_refl _) _)
          have hb10 : (0 : Int) ≤ (bins : Int) + 1 := by omega
          have hb12 : (bins : Int) + 1 < (bins : Int) + 2 := by omega
          clear hown hii
          go_wp2
          go_roundw
          case rel => exact ⟨k + 1, by omega, by go_num, HO.out, HB.out⟩
          case measure => first | (simp [intOf]; done) | (simp [intOf]; omega)
        · rw [if_neg hx2] at HE
          have hBlt : binN x low high bins < bins := (binN_spec (by omega) (by omega) hb).1
          have HBx := Lib.hid (fun w => HBi.out x w ix (by omega) (by omega))
          generalize binN x low high bins = B at *
          go_wp2_with fail
          ((with_reducible refine (HBx.out _).mono ?_); rintro e w5 ⟨rfl, hb5⟩)
          have Hb5 : Hid (Below w.heap.size w w5) := Lib.hid (hbb.out.trans (hb5.mono hzr))
          have Ho5 := Lib.hid (ownsRow_kept hown.out hb5)
          have hwB : IntKind.i64.wrap (1 + (B : Int)) = 1 + (B : Int) := by rw [IntKind.wrap_i64]; omega
          have hiN : 1 + B < bins + 2 := by omega
          have c6 := World.ownsRow.cellAt (Ho5).out (1 + B) (by omega)
          have f6 := World.ownsRow.frozenAt (Ho5).out (1 + B)
          have hzb := Hbl.out k (1 + B)
          have hcell : w5.cell? ⟨w.heap.size, 1 + B, none⟩ = some (.int .i64 ((histL l low high bins k)[1 + B]?.getD 0)) := by
            rw [c6, List.getElem?_map, List.getElem?_eq_getElem (by rw [Hll.out]; omega)]
            rfl
          have HO : Hid ((w5.setCell ⟨w.heap.size, 1 + B, none⟩ (.int .i64 ((histL l low high bins k)[1 + B]?.getD 0 + 1))).ownsRow w.heap.size 3 1 (.slice (some ⟨w.heap.size, 0, none⟩) (bins + 2) (bins + 2)) (bins + 2) ((histL l low high bins (k + 1)).map (Value.int .i64))) := Lib.hid (by
            have h := ownsRow_set (Ho5).out hiN (.int .i64 ((histL l low high bins k)[1 + B]?.getD 0 + 1))
            rw [set_map] at h
            rw [Hs.out, HE.out]
            exact h)
          clear c6
          generalize (histL l low high bins k)[1 + B]?.getD 0 = z at *
          have hwz : IntKind.i64.wrap (z + 1) = z + 1 := by rw [IntKind.wrap_i64]; omega
          have HB : Hid (Below w.heap.size w (w5.setCell ⟨w.heap.size, 1 + B, none⟩ (.int .i64 (z + 1)))) := Lib.hid (Hb5.out.setCell (Nat.le_refl _) _)
          have hB0 : (0 : Int) ≤ 1 + (B : Int) := by omega
          have hB2 : 1 + (B : Int) < (bins : Int) + 2 := by omega
          clear hown Ho5 hb5
          go_wp2
          go_roundw
          case rel => exact ⟨k + 1, by omega, by go_num, HO.out, HB.out⟩
          case measure => first | (simp [intOf]; done) | (simp [intOf]; omega)
    · obtain rfl : k = n := by omega
      have hr : Hid (Rd wr .i64 (some ⟨w.heap.size, 0, none⟩) (bins + 2) (histL l low high bins k)) := Lib.hid (by
        have h := Ow.rd (Ow.of hown.out) (by omega)
        exact h)
      clear hown
      go_wp2
      go_ret2
      exact ⟨w.heap.size, rfl, hr.out, hbb.out⟩
end Go.Proofs.Ytkmfdggodinjaaa
