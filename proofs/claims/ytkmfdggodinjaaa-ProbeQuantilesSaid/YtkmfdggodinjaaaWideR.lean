/-
  Layer wide: rounding by 2^32, to the nearest, of two the even one.
-/
import Derived.Test.YtkmfdggodinjaaaWideB
namespace Go.Proofs.Ytkmfdggodinjaaa
open Go.RowKit
set_option linter.unusedVariables false
set_option linter.unusedSimpArgs false
set_option maxRecDepth 8000

theorem I128_div {a : Int} (h : I128 a) : I128 (a / 4294967296) := by unfold I128 at *; omega

set_option maxRecDepth 100000 in
set_option maxHeartbeats 1600000 in
theorem Round32_any (a : Int) (w : World) (h : I128 a) :
    Calls Try.prog 104 #[W a, .int .i64 32] w fun e w' => e = .returned (W (rne a 4294967296)) ∧ Below w.heap.size w w' := by
  have HShr := Lib.hid (fun w => Shr32_any a w h)
  have HShl := Lib.hid (fun w => Shl32_any (a / 4294967296) w)
  have HSub := Lib.hid (fun w => Sub_any a (a / 4294967296 * 4294967296) w)
  have HOf := Lib.hid (fun w => Of_any 1 w (by unfold I64; omega))
  have HOne := Lib.hid (fun w => Shl31_one w)
  have HAdd := Lib.hid (fun w => Add_any (a / 4294967296) 1 w)
  obtain ⟨cc, hcc⟩ : ∃ cc, cmpI (a - a / 4294967296 * 4294967296) 2147483648 = cc := ⟨_, rfl⟩
  have HCmp := Lib.hid (fun w => hcc ▸ Cmp_any (a - a / 4294967296 * 4294967296) 2147483648 w (by unfold I128; omega) (by unfold I128; omega))
  have HB : bits .and .u64 (wlo (a / 4294967296)) 1 = a / 4294967296 % 2 := by
    have := wlo_bd (a / 4294967296)
    rw [and_one_u64 (by omega) (by omega)]; unfold wlo; omega
  have HC : Hid ((cc = 1 ∧ rne a 4294967296 = a / 4294967296 + 1) ∨ (cc = 0 ∧ a / 4294967296 % 2 = 1 ∧ rne a 4294967296 = a / 4294967296 + 1) ∨ (cc = 0 ∧ a / 4294967296 % 2 = 0 ∧ rne a 4294967296 = a / 4294967296) ∨ (cc = -1 ∧ rne a 4294967296 = a / 4294967296)) := by
    apply Lib.hid
    unfold cmpI at hcc
    unfold rne
    split at hcc
    · rw [if_neg (by omega)]; omega
    · split at hcc
      · by_cases ho : a / 4294967296 % 2 = 1
        · rw [if_pos (by omega)]; omega
        · rw [if_neg (by omega)]; omega
      · rw [if_pos (by omega)]; omega
  have HB := Lib.hid HB
  have Hcc := Lib.hid hcc
  clear hcc
  unfold W at *
  go_enter Try.func104, Try.ntmps104
  go_wp2_with fail
  ((with_reducible refine (HShr.out _).mono ?_); rintro e w1 ⟨rfl, hb1⟩)
  obtain ⟨hc1, hf1⟩ := bcell hb1
  have hz1 := hb1.size
  simp at hz1 hc1 hf1
  have Hb1 := Lib.hid hb1; clear hb1
  go_upto_region 6 with (fail)
  have g20 : w1.cell? ⟨w.heap.size, 0, none⟩ = some (.int .i64 (whi a)) := by rw [hc1 _ _ (by omega)]; go_simp
  have g21 : w1.cell? ⟨w.heap.size, 1, none⟩ = some (.int .u64 (wlo a)) := by rw [hc1 _ _ (by omega)]; go_simp
  have g40 : w1.cell? ⟨w.heap.size + 1, 0, none⟩ = some (.int .i64 0) := by rw [hc1 _ _ (by omega)]; go_simp
  have g41 : w1.cell? ⟨w.heap.size + 1, 1, none⟩ = some (.int .u64 0) := by rw [hc1 _ _ (by omega)]; go_simp
  have g42 : ∀ i, w1.frozen? ⟨w.heap.size + 1, i, none⟩ = false := fun i => by rw [hf1 _ _ (by omega)]; go_simp
  generalize hW : w1.alloc (.cells #[.int .i64 (whi (a / 4294967296)), .int .u64 (wlo (a / 4294967296))] 102) = W2
  have k20 : W2.cell? ⟨w.heap.size, 0, none⟩ = some (.int .i64 (whi a)) := by rw [← hW, World.cell?_alloc_past _ _ _ (by omega)]; exact g20
  have k21 : W2.cell? ⟨w.heap.size, 1, none⟩ = some (.int .u64 (wlo a)) := by rw [← hW, World.cell?_alloc_past _ _ _ (by omega)]; exact g21
  have k50 : W2.cell? ⟨w1.heap.size, 0, none⟩ = some (.int .i64 (whi (a / 4294967296))) := by rw [← hW, World.cell?_alloc_at _ _ _ _ rfl]; rfl
  have k51 : W2.cell? ⟨w1.heap.size, 1, none⟩ = some (.int .u64 (wlo (a / 4294967296))) := by rw [← hW, World.cell?_alloc_at _ _ _ _ rfl]; rfl
  have k40 : W2.cell? ⟨w.heap.size + 1, 0, none⟩ = some (.int .i64 0) := by rw [← hW, World.cell?_alloc_past _ _ _ (by omega)]; exact g40
  have k41 : W2.cell? ⟨w.heap.size + 1, 1, none⟩ = some (.int .u64 0) := by rw [← hW, World.cell?_alloc_past _ _ _ (by omega)]; exact g41
  have k42 : ∀ i, W2.frozen? ⟨w.heap.size + 1, i, none⟩ = false := fun i => by rw [← hW, World.frozen?_alloc_past _ _ _ (by omega)]; exact g42 i
  have HW2 : Hid (Below w.heap.size w W2) := by
    apply Lib.hid
    rw [← hW]
    have := Hb1.out
    (repeat first | assumption | exact Below.refl _ _ | refine Below.drew ?_ | refine Below.drewN ?_ _ | refine Below.alloc ?_ (by (first | omega | (simp; done) | (simp; omega))) _ | refine Below.setCell ?_ (by (first | omega | (simp; done) | (simp; omega))) _ | refine Below.trans ?_ (Below.mono (by assumption) (by (first | omega | (simp; done) | (simp; omega)))))
  have kz : w1.heap.size + 1 = W2.heap.size := by rw [← hW]; simp
  clear g20 g21 g40 g41 g42 hc1 hf1
  go_cut [6] (fun v wc => ∃ b6, v = .pointer (some ⟨b6, 0, none⟩) ∧ W2.heap.size ≤ b6 ∧ wc.cell? ⟨b6, 0, none⟩ = some (.int .i64 (whi (a - a / 4294967296 * 4294967296))) ∧ wc.cell? ⟨b6, 1, none⟩ = some (.int .u64 (wlo (a - a / 4294967296 * 4294967296))) ∧ Below W2.heap.size W2 wc)
  case first =>
    go_region_held3 (fun w' => w'.cell? ⟨w.heap.size, 0, none⟩ = some (.int .i64 (whi a)) ∧ w'.cell? ⟨w.heap.size, 1, none⟩ = some (.int .u64 (wlo a)) ∧ w'.cell? ⟨w1.heap.size, 0, none⟩ = some (.int .i64 (whi (a / 4294967296))) ∧ w'.cell? ⟨w1.heap.size, 1, none⟩ = some (.int .u64 (wlo (a / 4294967296))))
      (first | go_keep | (go_split_ands; (repeat' refine And.intro ?_ ?_) <;> (repeat first | assumption | exact (alloc_swap (by simp; omega)).trans (by assumption) | exact (alloc_swap (by omega)).trans (by assumption) | refine (World.cell?_setCell_far _ _ _ _ (by simp; omega)).trans ?_ | refine (World.cell?_setCell_far _ _ _ _ (Nat.ne_of_gt (by omega))).trans ?_ | refine (Below.cell (by assumption) (by simp; omega)).trans ?_ | refine (Below.cell (by assumption) (by omega)).trans ?_ | refine (World.cell?_alloc_past _ _ _ (by simp; omega)).trans ?_ | refine (World.cell?_alloc_past _ _ _ (by omega)).trans ?_)))
      (first
        | (go_at_call 99; refine (HShl.out _).mono ?_; rintro e w3 ⟨rfl, hb3⟩; have hz3 := hb3.size; obtain ⟨hc3, hf3⟩ := bcell hb3; (try simp at hz3 hc3 hf3); try have hlt3 : W2.heap.size < w3.heap.size := by omega)
        | (go_at_call 47; refine (HSub.out _).mono ?_; rintro e w4 ⟨rfl, hb4⟩; have hz4 := hb4.size; obtain ⟨hc4, hf4⟩ := bcell hb4; try simp at hz4 hc4 hf4))
    · go_wp2_with fail
      go_meet
      case rel => exact ⟨w4.heap.size, rfl, by omega, by go_simp, by go_simp, by (repeat first | assumption | exact Below.refl _ _ | refine Below.drew ?_ | refine Below.drewN ?_ _ | refine Below.alloc ?_ (by (first | omega | (simp; done) | (simp; omega))) _ | refine Below.setCell ?_ (by (first | omega | (simp; done) | (simp; omega))) _ | refine Below.trans ?_ (Below.mono (by assumption) (by (first | omega | (simp; done) | (simp; omega)))))⟩
    · go_wp2_with fail
      go_meet
      case rel => exact ⟨w3.heap.size, rfl, by omega, by go_simp, by go_simp, by (repeat first | assumption | exact Below.refl _ _ | refine Below.drew ?_ | refine Below.drewN ?_ _ | refine Below.alloc ?_ (by (first | omega | (simp; done) | (simp; omega))) _ | refine Below.setCell ?_ (by (first | omega | (simp; done) | (simp; omega))) _ | refine Below.trans ?_ (Below.mono (by assumption) (by (first | omega | (simp; done) | (simp; omega)))))⟩
    · go_wp2_with fail
      go_meet
      case rel => exact ⟨W2.heap.size, rfl, by omega, by go_simp, by go_simp, by (repeat first | assumption | exact Below.refl _ _ | refine Below.drew ?_ | refine Below.drewN ?_ _ | refine Below.alloc ?_ (by (first | omega | (simp; done) | (simp; omega))) _ | refine Below.setCell ?_ (by (first | omega | (simp; done) | (simp; omega))) _ | refine Below.trans ?_ (Below.mono (by assumption) (by (first | omega | (simp; done) | (simp; omega)))))⟩
  case rest =>
    obtain ⟨b6, rfl, hb6, c60, c61, hbW⟩ := hcut
    obtain ⟨hcW, hfW⟩ := bcell hbW
    have hzW := hbW.size
    have hbl := World.block_lt_of_cell? _ _ c60
    simp only at hbl
    have m50 : wc.cell? ⟨w1.heap.size, 0, none⟩ = some (.int .i64 (whi (a / 4294967296))) := by rw [hcW _ _ (by omega)]; exact k50
    have m51 : wc.cell? ⟨w1.heap.size, 1, none⟩ = some (.int .u64 (wlo (a / 4294967296))) := by rw [hcW _ _ (by omega)]; exact k51
    have m40 : wc.cell? ⟨w.heap.size + 1, 0, none⟩ = some (.int .i64 0) := by rw [hcW _ _ (by omega)]; exact k40
    have m41 : wc.cell? ⟨w.heap.size + 1, 1, none⟩ = some (.int .u64 0) := by rw [hcW _ _ (by omega)]; exact k41
    have m42 : ∀ i, wc.frozen? ⟨w.heap.size + 1, i, none⟩ = false := fun i => by rw [hfW _ _ (by omega)]; exact k42 i
    have HbW : Hid (Below w.heap.size w wc) := Lib.hid (HW2.out.trans (hbW.mono (by omega)))
    have hlt1 : w.heap.size + 1 < wc.heap.size := by omega
    have hlt5 : w1.heap.size < wc.heap.size := by omega
    clear hbW hcW hfW k20 k21 k50 k51 k40 k41 k42 hb6 kz hW
    go_upto_region 9 with first
      | ((with_reducible refine (HOf.out _).mono ?_); rintro e w5 ⟨rfl, hb5⟩; obtain ⟨hc5, hf5⟩ := bcell hb5; have hz5 := hb5.size; (try simp at hz5 hc5 hf5); have lt56 : b6 < w5.heap.size := (by omega); have lt51 : w.heap.size + 1 < w5.heap.size := (by omega); have lt55 : w1.heap.size < w5.heap.size := (by omega))
      | ((with_reducible refine (HOne.out _).mono ?_); rintro e w6 ⟨rfl, hb6⟩; obtain ⟨hc6, hf6⟩ := bcell hb6; have hz6 := hb6.size; (try simp at hz6 hc6 hf6); have lt66 : b6 < w6.heap.size := (by omega); have lt61 : w.heap.size + 1 < w6.heap.size := (by omega); have lt65 : w1.heap.size < w6.heap.size := (by omega))
      | ((with_reducible refine (HCmp.out _).mono ?_); rintro e w7 ⟨rfl, hb7⟩; obtain ⟨hc7, hf7⟩ := bcell hb7; have hz7 := hb7.size; (try simp at hz7 hc7 hf7); have lt76 : b6 < w7.heap.size := (by omega); have lt71 : w.heap.size + 1 < w7.heap.size := (by omega); have lt75 : w1.heap.size < w7.heap.size := (by omega))
      | fail
    have n50 : w7.cell? ⟨w1.heap.size, 0, none⟩ = some (.int .i64 (whi (a / 4294967296))) := by (go_split_ands; (repeat' refine And.intro ?_ ?_) <;> (repeat first | assumption | exact (alloc_swap (by simp; omega)).trans (by assumption) | exact (alloc_swap (by omega)).trans (by assumption) | refine (World.cell?_setCell_far _ _ _ _ (by simp; omega)).trans ?_ | refine (World.cell?_setCell_far _ _ _ _ (Nat.ne_of_gt (by omega))).trans ?_ | refine (Below.cell (by assumption) (by simp; omega)).trans ?_ | refine (Below.cell (by assumption) (by omega)).trans ?_ | refine (World.cell?_alloc_past _ _ _ (by simp; omega)).trans ?_ | refine (World.cell?_alloc_past _ _ _ (by omega)).trans ?_))
    have n51 : w7.cell? ⟨w1.heap.size, 1, none⟩ = some (.int .u64 (wlo (a / 4294967296))) := by (go_split_ands; (repeat' refine And.intro ?_ ?_) <;> (repeat first | assumption | exact (alloc_swap (by simp; omega)).trans (by assumption) | exact (alloc_swap (by omega)).trans (by assumption) | refine (World.cell?_setCell_far _ _ _ _ (by simp; omega)).trans ?_ | refine (World.cell?_setCell_far _ _ _ _ (Nat.ne_of_gt (by omega))).trans ?_ | refine (Below.cell (by assumption) (by simp; omega)).trans ?_ | refine (Below.cell (by assumption) (by omega)).trans ?_ | refine (World.cell?_alloc_past _ _ _ (by simp; omega)).trans ?_ | refine (World.cell?_alloc_past _ _ _ (by omega)).trans ?_))
    have n40 : w7.cell? ⟨w.heap.size + 1, 0, none⟩ = some (.int .i64 0) := by (go_split_ands; (repeat' refine And.intro ?_ ?_) <;> (repeat first | assumption | exact (alloc_swap (by simp; omega)).trans (by assumption) | exact (alloc_swap (by omega)).trans (by assumption) | refine (World.cell?_setCell_far _ _ _ _ (by simp; omega)).trans ?_ | refine (World.cell?_setCell_far _ _ _ _ (Nat.ne_of_gt (by omega))).trans ?_ | refine (Below.cell (by assumption) (by simp; omega)).trans ?_ | refine (Below.cell (by assumption) (by omega)).trans ?_ | refine (World.cell?_alloc_past _ _ _ (by simp; omega)).trans ?_ | refine (World.cell?_alloc_past _ _ _ (by omega)).trans ?_))
    have n41 : w7.cell? ⟨w.heap.size + 1, 1, none⟩ = some (.int .u64 0) := by (go_split_ands; (repeat' refine And.intro ?_ ?_) <;> (repeat first | assumption | exact (alloc_swap (by simp; omega)).trans (by assumption) | exact (alloc_swap (by omega)).trans (by assumption) | refine (World.cell?_setCell_far _ _ _ _ (by simp; omega)).trans ?_ | refine (World.cell?_setCell_far _ _ _ _ (Nat.ne_of_gt (by omega))).trans ?_ | refine (Below.cell (by assumption) (by simp; omega)).trans ?_ | refine (Below.cell (by assumption) (by omega)).trans ?_ | refine (World.cell?_alloc_past _ _ _ (by simp; omega)).trans ?_ | refine (World.cell?_alloc_past _ _ _ (by omega)).trans ?_))
    have n42 : ∀ i, w7.frozen? ⟨w.heap.size + 1, i, none⟩ = false := fun i => by
      rw [hf7 _ _ (by (first | omega | (simp; done) | (simp; omega))), World.frozen?_alloc_past _ _ _ (by omega), hf6 _ _ (by omega), hf5 _ _ (by omega)]; exact m42 i
    have Hb7 : Hid (Below w.heap.size w w7) := Lib.hid (by have := HbW.out; (repeat first | assumption | exact Below.refl _ _ | refine Below.drew ?_ | refine Below.drewN ?_ _ | refine Below.alloc ?_ (by (first | omega | (simp; done) | (simp; omega))) _ | refine Below.setCell ?_ (by (first | omega | (simp; done) | (simp; omega))) _ | refine Below.trans ?_ (Below.mono (by assumption) (by (first | omega | (simp; done) | (simp; omega))))))
    clear hb5 hb6 hb7 hc5 hc6 hc7 hf5 hf6 hf7 m50 m51 m40 m41 m42 c60 c61
    rcases HC.out with ⟨rfl, hr⟩ | ⟨rfl, ho, hr⟩ | ⟨rfl, ho, hr⟩ | ⟨rfl, hr⟩
    · have Hr := Lib.hid hr; clear hr
      go_upto_region 10 with fail
      go_region_with first
        | ((with_reducible refine (HOf.out _).mono ?_); rintro e w8 ⟨rfl, hb8⟩; obtain ⟨hc8, hf8⟩ := bcell hb8; have hz8 := hb8.size; (try simp at hz8 hc8 hf8); (try have lt86 : b6 < w8.heap.size := (by omega)); (try have lt81 : w.heap.size + 1 < w8.heap.size := (by omega)); (try have lt85 : w1.heap.size < w8.heap.size := (by omega)))
        | ((with_reducible refine (HAdd.out _).mono ?_); rintro e w9 ⟨rfl, hb9⟩; obtain ⟨hc9, hf9⟩ := bcell hb9; have hz9 := hb9.size; (try simp at hz9 hc9 hf9); (try have lt96 : b6 < w9.heap.size := (by omega)); (try have lt91 : w.heap.size + 1 < w9.heap.size := (by omega)); (try have lt95 : w1.heap.size < w9.heap.size := (by omega)))
        | fail
      all_goals go_wp2
      all_goals exact bodyPost_ret (v := .agg #[.int .i64 (whi (a / 4294967296 + 1)), .int .u64 (wlo (a / 4294967296 + 1))]) (by simp [results, Try.results104, go_sem, hc9, hc8, n40, n41, lt81, lt71]) rfl ⟨by rw [Hr.out], by have := Hb7.out; (repeat first | assumption | exact Below.refl _ _ | refine Below.drew ?_ | refine Below.drewN ?_ _ | refine Below.alloc ?_ (by (first | omega | (simp; done) | (simp; omega))) _ | refine Below.setCell ?_ (by (first | omega | (simp; done) | (simp; omega))) _ | refine Below.trans ?_ (Below.mono (by assumption) (by (first | omega | (simp; done) | (simp; omega)))))⟩
    · have Hr := Lib.hid hr; clear hr
      have HBo := HB.out.trans ho; clear ho
      go_upto_region 10 with fail
      go_region_with first
        | ((with_reducible refine (HOf.out _).mono ?_); rintro e w8 ⟨rfl, hb8⟩; obtain ⟨hc8, hf8⟩ := bcell hb8; have hz8 := hb8.size; (try simp at hz8 hc8 hf8); (try have lt86 : b6 < w8.heap.size := (by omega)); (try have lt81 : w.heap.size + 1 < w8.heap.size := (by omega)); (try have lt85 : w1.heap.size < w8.heap.size := (by omega)))
        | ((with_reducible refine (HAdd.out _).mono ?_); rintro e w9 ⟨rfl, hb9⟩; obtain ⟨hc9, hf9⟩ := bcell hb9; have hz9 := hb9.size; (try simp at hz9 hc9 hf9); (try have lt96 : b6 < w9.heap.size := (by omega)); (try have lt91 : w.heap.size + 1 < w9.heap.size := (by omega)); (try have lt95 : w1.heap.size < w9.heap.size := (by omega)))
        | fail
      all_goals go_wp2
      all_goals exact bodyPost_ret (v := .agg #[.int .i64 (whi (a / 4294967296 + 1)), .int .u64 (wlo (a / 4294967296 + 1))]) (by simp [results, Try.results104, go_sem, hc9, hc8, n40, n41, lt81, lt71]) rfl ⟨by rw [Hr.out], by have := Hb7.out; (repeat first | assumption | exact Below.refl _ _ | refine Below.drew ?_ | refine Below.drewN ?_ _ | refine Below.alloc ?_ (by (first | omega | (simp; done) | (simp; omega))) _ | refine Below.setCell ?_ (by (first | omega | (simp; done) | (simp; omega))) _ | refine Below.trans ?_ (Below.mono (by assumption) (by (first | omega | (simp; done) | (simp; omega)))))⟩
    · have Hr := Lib.hid hr; clear hr
      have HBo := HB.out.trans ho; clear ho
      go_wp2
      exact bodyPost_ret (v := .agg #[.int .i64 (whi (a / 4294967296)), .int .u64 (wlo (a / 4294967296))]) (by simp [results, Try.results104, go_sem, n40, n41]) rfl ⟨by rw [Hr.out], by have := Hb7.out; (repeat first | assumption | exact Below.refl _ _ | refine Below.drew ?_ | refine Below.drewN ?_ _ | refine Below.alloc ?_ (by (first | omega | (simp; done) | (simp; omega))) _ | refine Below.setCell ?_ (by (first | omega | (simp; done) | (simp; omega))) _ | refine Below.trans ?_ (Below.mono (by assumption) (by (first | omega | (simp; done) | (simp; omega)))))⟩
    · have Hr := Lib.hid hr; clear hr
      go_wp2
      exact bodyPost_ret (v := .agg #[.int .i64 (whi (a / 4294967296)), .int .u64 (wlo (a / 4294967296))]) (by simp [results, Try.results104, go_sem, n40, n41]) rfl ⟨by rw [Hr.out], by have := Hb7.out; (repeat first | assumption | exact Below.refl _ _ | refine Below.drew ?_ | refine Below.drewN ?_ _ | refine Below.alloc ?_ (by (first | omega | (simp; done) | (simp; omega))) _ | refine Below.setCell ?_ (by (first | omega | (simp; done) | (simp; omega))) _ | refine Below.trans ?_ (Below.mono (by assumption) (by (first | omega | (simp; done) | (simp; omega)))))⟩
end Go.Proofs.Ytkmfdggodinjaaa
