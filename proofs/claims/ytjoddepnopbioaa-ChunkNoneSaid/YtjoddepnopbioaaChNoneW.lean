/-
  The walk of regattalaw20.ChunkNone.
-/
import Derived.Test.YtjoddepnopbioaaChE
namespace Go.Proofs.Ytjoddepnopbioaa
open Go.RowKit Go.Maps
set_option linter.unusedVariables false
set_option linter.unusedSimpArgs false

/-- A gather that is none. -/
def IsNone (w : World) (p : Value) : Prop := ∀ q, Calls Try.prog 28 #[p] (w.drewN q) fun e w' => e = .returned (.bool false) ∧ w.drewN q = w'

theorem IsNone.drewN {w : World} {p : Value} (h : IsNone w p) (n : Nat) : IsNone (w.drewN n) p := fun q => by
  have e : (w.drewN n).drewN q = w.drewN (n + q) := by simp [World.drewN, Nat.add_assoc]
  rw [e]
  exact h _
theorem IsNone.now {w : World} {p : Value} (h : IsNone w p) : Calls Try.prog 28 #[p] w fun e w' => e = .returned (.bool false) ∧ w = w' := h 0

theorem isNone_nil (w : World) : IsNone w (.pointer none) := fun _ => is_nil _
theorem isNone_zero {w : World} {b : Nat} (c0 : w.cell? ⟨b, 0, none⟩ = some (.bool false)) : IsNone w (.pointer (some ⟨b, 0, none⟩)) := fun q => is_any b false _ c0

theorem Begin_none {w : World} {p : Value} (h : IsNone w p) : Calls Try.prog 19 #[p] w fun e w' => e = .returned (.tuple #[]) ∧ w = w' := by
  have H := Lib.hid h; have H0 := Lib.hid h.now; clear h
  go_enter Try.func19, Try.ntmps19
  go_wp2_with (go_at_call 28; refine H0.out.mono ?_; rintro e w' ⟨rfl, rfl⟩)
  go_end0
  exact ⟨rfl, rfl⟩

theorem Add_none {w : World} {p : Value} (h : IsNone w p) (part parts : Int) (a : Option Addr) (n c : Nat) : Calls Try.prog 16 #[p, .int .i64 part, .int .i64 parts, .slice a n c] w fun e w' => e = .returned (.tuple #[.bool false, .int .i64 1]) ∧ w = w' := by
  have H := Lib.hid h; have H0 := Lib.hid h.now; clear h
  go_enter Try.func16, Try.ntmps16
  go_wp2_with (go_at_call 28; refine H0.out.mono ?_; rintro e w' ⟨rfl, rfl⟩)
  go_ret2
  exact ⟨rfl, rfl⟩

theorem Data_none {w : World} {p : Value} (h : IsNone w p) : Calls Try.prog 20 #[p] w fun e w' => e = .returned (.tuple #[.slice none 0 0, .int .i64 1]) ∧ w = w' := by
  have H := Lib.hid h; have H0 := Lib.hid h.now; clear h
  go_enter Try.func20, Try.ntmps20
  go_wp2_with (go_at_call 28; refine H0.out.mono ?_; rintro e w' ⟨rfl, rfl⟩)
  go_ret2
  exact ⟨rfl, rfl⟩

theorem Missing_none {w : World} {p : Value} (h : IsNone w p) : Calls Try.prog 21 #[p] w fun e w' => e = .returned (.tuple #[.int .i64 0, .bool false]) ∧ w = w' := by
  have H := Lib.hid h; have H0 := Lib.hid h.now; clear h
  go_enter Try.func21, Try.ntmps21
  go_wp2_with (go_at_call 28; refine H0.out.mono ?_; rintro e w' ⟨rfl, rfl⟩)
  go_ret2
  exact ⟨rfl, rfl⟩

theorem Bytes_none {w : World} {p : Value} (h : IsNone w p) : Calls Try.prog 23 #[p] w fun e w' => e = .returned (.int .i64 0) ∧ w = w' := by
  have H := Lib.hid h; have H0 := Lib.hid h.now; clear h
  go_enter Try.func23, Try.ntmps23
  go_wp2_with (go_at_call 28; refine H0.out.mono ?_; rintro e w' ⟨rfl, rfl⟩)
  go_ret
  exact ⟨rfl, rfl⟩

set_option maxHeartbeats 400000 in
theorem Whole_none {w : World} {p : Value} (h : IsNone w p) : Calls Try.prog 22 #[p] w fun e w' => e = .returned (.bool false) ∧ Drew w w' := by
  have H := Lib.hid h; have H0 := Lib.hid h.now; clear h
  go_enter Try.func22, Try.ntmps22
  go_wp2_with fail
  go_quiet ((go_at_call 28; refine Calls.quiet_of_same ((H.out _).mono fun e w' h => ⟨h.1, h.2.symm⟩)))
  go_wp2
  go_ret
  exact ⟨rfl, (Drew.refl _).drewN _⟩

set_option maxHeartbeats 1600000 in
set_option maxRecDepth 100000 in
theorem none_walk (a1 a2 : Int) (a0 : Option Addr) (n c : Nat) (w : World) :
    Calls Try.prog 6 #[.int .i64 a1, .int .i64 a2, .slice a0 n c] w fun e w' => e = .returned (.bool true) ∧ Below w.heap.size w w' := by
  by_cases hn : 1000 < n
  · go_enter Try.func6, Try.ntmps6
    go_wp2_with (go_at_call 8; refine (awake_any _).mono ?_; rintro e w1 ⟨rfl, hb⟩)
    go_ret
    exact ⟨rfl, hb⟩
  · go_enter Try.func6, Try.ntmps6
    go_wp2_with fail
    refine (awake_any _).mono ?_
    rintro e w1 ⟨rfl, hb1⟩
    have Hb1 := Lib.hid hb1; clear hb1
    go_wp2
    generalize hW : ((w1.alloc (.cells #[.bool false, .int .i64 0, .int .i64 0, .int .i64 0, .map none] 52)).alloc (.cells #[.pointer none, .pointer (some ⟨w1.heap.size, 0, none⟩)] 37)) = W
    have hb2 : Below w1.heap.size w1 W := by
      rw [← hW]
      exact ((Below.refl _ _).alloc (Nat.le_refl _) _).alloc (by simp) _
    have hblk : W.heap[w1.heap.size + 1]? = some (.cells #[.pointer none, .pointer (some ⟨w1.heap.size, 0, none⟩)] 37 (0, 0)) := by
      rw [← hW]
      have := heap_alloc_new (w1.alloc (.cells #[.bool false, .int .i64 0, .int .i64 0, .int .i64 0, .map none] 52)) (.cells #[.pointer none, .pointer (some ⟨w1.heap.size, 0, none⟩)] 37)
      simpa using this
    have hblk0 : W.heap[w1.heap.size]? = some (.cells #[.bool false, .int .i64 0, .int .i64 0, .int .i64 0, .map none] 52 (0, 0)) := by
      rw [← hW, Below.heap_alloc _ _ _ (by simp)]
      exact heap_alloc_new w1 _
    have d0 : W.cell? ⟨w1.heap.size + 1, 0, none⟩ = some (.pointer none) := cell_of_row W _ 0 _ _ _ hblk
    have d1 : W.cell? ⟨w1.heap.size + 1, 1, none⟩ = some (.pointer (some ⟨w1.heap.size, 0, none⟩)) := cell_of_row W _ 1 _ _ _ hblk
    have Hn := Lib.hid (fun (k : Nat) (hk : k < 2) => (show ∃ p, W.cell? ⟨w1.heap.size + 1, k, none⟩ = some p ∧ IsNone W p by
      match k, hk with
      | 0, _ => exact ⟨_, d0, isNone_nil W⟩
      | 1, _ => exact ⟨_, d1, isNone_zero (cell_of_row W _ 0 _ _ _ hblk0)⟩))
    have Hb2 := Lib.hid (Hb1.out.trans (hb2.mono Hb1.out.size))
    clear hb2 hblk hblk0 d0 d1 hW
    go_loopw [26] (fun i wr => ∃ k : Nat, k ≤ 2 ∧ i = .int .i64 k ∧ Hid (Drew W wr)) (fun i _ => 2 - (intOf i).toNat)
    case atStart => exact ⟨0, by omega, rfl, Drew.refl _⟩
    case round =>
      obtain ⟨k, hk, rfl, hq⟩ := hrel
      obtain ⟨q, rfl⟩ := hq.out
      by_cases hlt : k < 2
      · obtain ⟨p, hp, hnp⟩ := Hn.out k hlt
        have HN := Lib.hid (hnp.drewN q)
        have HN0 := Lib.hid hnp
        clear hnp
        go_wp2_with (first
          | (go_at_call 19; refine (Begin_none HN.out).mono ?_; rintro e w' ⟨rfl, rfl⟩)
          | (go_at_call 16; refine (Add_none HN.out _ _ _ _ _).mono ?_; rintro e w' ⟨rfl, rfl⟩)
          | (go_at_call 20; refine (Data_none HN.out).mono ?_; rintro e w' ⟨rfl, rfl⟩)
          | (go_at_call 21; refine (Missing_none HN.out).mono ?_; rintro e w' ⟨rfl, rfl⟩)
          | (go_at_call 22; refine (Whole_none HN.out).mono ?_; rintro e w' ⟨rfl, ⟨q2, rfl⟩⟩)
          | (go_at_call 23; refine (Bytes_none (by first | exact HN.out | exact HN0.out.drewN _ | exact HN.out.drewN _)).mono ?_; rintro e w' ⟨rfl, rfl⟩))
        go_roundw
        case rel => exact ⟨k + 1, by omega, by go_num, by first | exact (Drew.refl _).drewN _ | exact ((Drew.refl _).drewN _).drewN _⟩
        case measure => simp [intOf]; omega
      · obtain rfl : k = 2 := by omega
        go_wp2
        go_ret
        exact ⟨rfl, Hb2.out.trans (Drew.below ((Drew.refl _).drewN _) _)⟩
end Go.Proofs.Ytjoddepnopbioaa
