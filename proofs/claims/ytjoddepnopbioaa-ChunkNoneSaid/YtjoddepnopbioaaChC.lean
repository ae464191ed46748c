/-
  chunk.Gather: the calls that only read, and New and Begin.
-/
import Derived.Test.YtjoddepnopbioaaChB
import Derived.Test.YtjoddepnopbioaaMaps
namespace Go.Proofs.Ytjoddepnopbioaa
open Go.RowKit Go.Maps
set_option linter.unusedVariables false
set_option linter.unusedSimpArgs false

theorem kInt : Keyed Try.prog 3 := int_keyed Try.underlying3

/-- The struct of a gather, cell by cell. -/
structure GCells (w : World) (b m : Nat) (most parts bytes : Int) : Prop where
  c0 : w.cell? ⟨b, 0, none⟩ = some (.bool true)
  c1 : w.cell? ⟨b, 1, none⟩ = some (.int .i64 most)
  c2 : w.cell? ⟨b, 2, none⟩ = some (.int .i64 parts)
  c3 : w.cell? ⟨b, 3, none⟩ = some (.int .i64 bytes)
  c4 : w.cell? ⟨b, 4, none⟩ = some (.map (some m))

theorem is_any (b : Nat) (x : Bool) (w : World) (c0 : w.cell? ⟨b, 0, none⟩ = some (.bool x)) :
    Calls Try.prog 28 #[.pointer (some ⟨b, 0, none⟩)] w fun e w' => e = .returned (.bool x) ∧ w = w' := by
  go_enter Try.func28, Try.ntmps28
  go_wp2
  go_ret
  exact ⟨rfl, rfl⟩

theorem is_nil (w : World) : Calls Try.prog 28 #[.pointer none] w fun e w' => e = .returned (.bool false) ∧ w = w' := by
  go_enter Try.func28, Try.ntmps28
  go_wp2
  go_ret
  exact ⟨rfl, rfl⟩

def fitsB (part parts parts0 : Int) (n : Nat) : Bool := decide (1 ≤ parts ∧ parts ≤ 1024 ∧ 0 ≤ part ∧ part < parts ∧ (n = 0 ∨ parts = parts0))
theorem fitsB_true {part parts parts0 : Int} {n : Nat} (h : 1 ≤ parts ∧ parts ≤ 1024 ∧ 0 ≤ part ∧ part < parts ∧ (n = 0 ∨ parts = parts0)) : fitsB part parts parts0 n = true := decide_eq_true h
theorem fitsB_false {part parts parts0 : Int} {n : Nat} (h : ¬ (1 ≤ parts ∧ parts ≤ 1024 ∧ 0 ≤ part ∧ part < parts ∧ (n = 0 ∨ parts = parts0))) : fitsB part parts parts0 n = false := decide_eq_false h

set_option maxHeartbeats 400000 in
theorem fits_any (b m : Nat) (most parts0 bytes part parts : Int) (L : List (Value × Value)) (w : World) (hc : GCells w b m most parts0 bytes) (hm : MapIs Try.prog 3 w m L) :
    Calls Try.prog 29 #[.pointer (some ⟨b, 0, none⟩), .int .i64 part, .int .i64 parts] w fun e w' => e = .returned (.bool (fitsB part parts parts0 L.length)) ∧ w = w' := by
  obtain ⟨c0, c1, c2, c3, c4⟩ := hc
  have hlen := run_len_map hm Try.underlying50 3
  have hsz := hm.size
  clear hm
  by_cases h1 : parts < 1
  · rw [fitsB_false (by omega)]; go_enter Try.func29, Try.ntmps29; go_wp2; go_ret; exact ⟨rfl, rfl⟩
  by_cases h2 : 1024 < parts
  · rw [fitsB_false (by omega)]; go_enter Try.func29, Try.ntmps29; go_wp2; go_ret; exact ⟨rfl, rfl⟩
  by_cases h3 : part < 0
  · rw [fitsB_false (by omega)]; go_enter Try.func29, Try.ntmps29; go_wp2; go_ret; exact ⟨rfl, rfl⟩
  by_cases h4 : parts ≤ part
  · rw [fitsB_false (by omega)]; go_enter Try.func29, Try.ntmps29; go_wp2; go_ret; exact ⟨rfl, rfl⟩
  by_cases h5 : L.length = 0
  · rw [fitsB_true (by omega)]
    have h5' : ((L.length : Int) == 0) = true := by simpa using h5
    clear h5
    go_enter Try.func29, Try.ntmps29; go_wp2; go_ret; exact ⟨rfl, rfl⟩
  have h5' : ((L.length : Int) == 0) = false := by simpa using h5
  by_cases h6 : parts = parts0
  · subst h6
    have e : fitsB part parts parts L.length = true := fitsB_true ⟨by omega, by omega, by omega, by omega, .inr rfl⟩
    rw [e]; clear e
    go_enter Try.func29, Try.ntmps29; go_wp2; go_ret; exact ⟨rfl, rfl⟩
  · have h6' : (parts == parts0) = false := by simpa using h6
    rw [fitsB_false (by rintro ⟨_, _, _, _, h | h⟩ <;> omega)]; go_enter Try.func29, Try.ntmps29; go_wp2; go_ret; exact ⟨rfl, rfl⟩

theorem Bytes_any (b : Nat) (bytes : Int) (w : World) (c0 : w.cell? ⟨b, 0, none⟩ = some (.bool true)) (c3 : w.cell? ⟨b, 3, none⟩ = some (.int .i64 bytes)) :
    Calls Try.prog 23 #[.pointer (some ⟨b, 0, none⟩)] w fun e w' => e = .returned (.int .i64 bytes) ∧ w = w' := by
  go_enter Try.func23, Try.ntmps23
  go_wp2_with (go_at_call 28; refine (is_any b true _ (by assumption)).mono ?_; rintro e w' ⟨rfl, rfl⟩)
  go_ret
  exact ⟨rfl, rfl⟩

def wholeB (parts : Int) (n : Nat) : Bool := decide (0 < parts ∧ (n : Int) = parts)

set_option maxHeartbeats 400000 in
theorem Whole_any (b m : Nat) (most parts bytes : Int) (L : List (Value × Value)) (w : World) (hc : GCells w b m most parts bytes) (hm : MapIs Try.prog 3 w m L) :
    Calls Try.prog 22 #[.pointer (some ⟨b, 0, none⟩)] w fun e w' => e = .returned (.bool (wholeB parts L.length)) ∧ Drew w w' := by
  obtain ⟨c0, c1, c2, c3, c4⟩ := hc
  have hlen : ∀ q ty, (Builtin.len_ #[50] ty #[.map (some m)]).run Try.prog (w.drewN q) = .ok (.int .i64 L.length) (w.drewN q) := fun q ty => run_len_map (w := w.drewN q) hm Try.underlying50 ty
  have hsz := hm.size
  clear hm
  by_cases h1 : 0 < parts
  · by_cases h2 : (L.length : Int) = parts
    · have e : wholeB parts L.length = true := decide_eq_true ⟨h1, h2⟩
      have h2' : ((L.length : Int) == parts) = true := by simpa using h2
      rw [e]; clear e h2
      go_enter Try.func22, Try.ntmps22
      go_wp2_with fail
      go_quiet ((go_at_call 28; refine Calls.quiet_of_same ((is_any b true _ (by assumption)).mono fun e w' h => ⟨h.1, h.2.symm⟩)))
      go_wp2
      go_ret
      exact ⟨rfl, (Drew.refl _).drewN _⟩
    · have e : wholeB parts L.length = false := decide_eq_false fun h => h2 h.2
      have h2' : ((L.length : Int) == parts) = false := by simpa using h2
      rw [e]; clear e h2
      go_enter Try.func22, Try.ntmps22
      go_wp2_with fail
      go_quiet ((go_at_call 28; refine Calls.quiet_of_same ((is_any b true _ (by assumption)).mono fun e w' h => ⟨h.1, h.2.symm⟩)))
      go_wp2
      go_ret
      exact ⟨rfl, (Drew.refl _).drewN _⟩
  · have e : wholeB parts L.length = false := decide_eq_false fun h => h1 h.1
    have h1' : decide (0 < parts) = false := decide_eq_false h1
    rw [e]; clear e h1
    go_enter Try.func22, Try.ntmps22
    go_wp2_with fail
    go_quiet ((go_at_call 28; refine Calls.quiet_of_same ((is_any b true _ (by assumption)).mono fun e w' h => ⟨h.1, h.2.symm⟩)))
    go_wp2
    go_ret
    exact ⟨rfl, (Drew.refl _).drewN _⟩

theorem zeroBs (w : World) : (zeroValue 22).run Try.prog w = .ok (.slice none 0 0) w := by kernel_rfl

/-- What the least part that isn't there is told by: all below n are there, n isn't. -/
def Lacks (L : List (Value × Value)) (n : Nat) : Prop := (∀ i : Nat, i < n → ∃ v, (Value.int .i64 i, v) ∈ L) ∧ ∀ p ∈ L, p.1 ≠ .int .i64 n

set_option maxHeartbeats 400000 in
theorem Missing_whole (b m : Nat) (most parts bytes : Int) (L : List (Value × Value)) (w : World) (hc : GCells w b m most parts bytes) (hm : MapIs Try.prog 3 w m L) (h : wholeB parts L.length = true) :
    Calls Try.prog 21 #[.pointer (some ⟨b, 0, none⟩)] w fun e w' => e = .returned (.tuple #[.int .i64 0, .bool false]) ∧ Drew w w' := by
  have HW := Lib.hid (Whole_any b m most parts bytes L w hc hm)
  rw [h] at HW
  have c0 := hc.c0
  clear h hm hc
  go_enter Try.func21, Try.ntmps21
  go_wp2_with (first
    | (go_at_call 28; refine (is_any b true _ (by assumption)).mono ?_; rintro e w' ⟨rfl, rfl⟩)
    | (go_at_call 22; refine HW.out.mono ?_; rintro e w' ⟨rfl, ⟨q, rfl⟩⟩))
  go_ret2
  exact ⟨rfl, (Drew.refl _).drewN _⟩

set_option maxHeartbeats 400000 in
theorem Missing_any (b m : Nat) (most parts bytes : Int) (L : List (Value × Value)) (w : World) (hc : GCells w b m most parts bytes) (hm : MapIs Try.prog 3 w m L) (h : wholeB parts L.length = false) (n : Nat) (hn : Lacks L n) (hn2 : n ≤ 100000) :
    Calls Try.prog 21 #[.pointer (some ⟨b, 0, none⟩)] w fun e w' => e = .returned (.tuple #[.int .i64 n, .bool true]) ∧ Drew w w' := by
  have HW := Lib.hid (Whole_any b m most parts bytes L w hc hm)
  rw [h] at HW
  have HM := Lib.hid hm
  have HN := Lib.hid hn
  have hzero := zeroBs
  obtain ⟨c0, c1, c2, c3, c4⟩ := hc
  clear h hm hn
  go_enter Try.func21, Try.ntmps21
  go_wp2_with (first
    | (go_at_call 28; refine (is_any b true _ (by assumption)).mono ?_; rintro e w' ⟨rfl, rfl⟩)
    | (go_at_call 22; refine HW.out.mono ?_; rintro e w' ⟨rfl, ⟨q, rfl⟩⟩))
  go_loop [2] (fun i => ∃ k : Nat, k ≤ n ∧ i = .int .i64 k) (fun i => n - (intOf i).toNat)
  case atStart => exact ⟨0, Nat.zero_le _, rfl⟩
  case round =>
    obtain ⟨k, hk, rfl⟩ := hrel
    have hkey := keyOf_int_mk Try.underlying3 (a := (k : Int)) (wf_i64 (by omega) (by omega))
    have Hkey := Lib.hid hkey; clear hkey
    by_cases hlt : k < n
    · obtain ⟨v, hv⟩ := HN.out.1 k hlt
      have Hv := Lib.hid hv; clear hv
      go_wp2_with (at_lookup; refine wpl_look_hit (L := L) (by exact HM.out) kInt rfl _ _ 50 22 rfl Try.underlying50 (hzero _) _ v _ Hkey.out Hv.out rfl rfl ?_)
      go_round
      case rel => exact ⟨k + 1, by omega, by go_num⟩
      case measure => simp [intOf]; omega
    · obtain rfl : k = n := by omega
      go_wp2_with (at_lookup; refine wpl_look_miss (L := L) (by exact HM.out) kInt rfl _ _ 50 22 rfl Try.underlying50 (hzero _) _ _ Hkey.out HN.out.2 rfl rfl ?_)
      go_ret2
      exact ⟨rfl, (Drew.refl _).drewN _⟩

/-! ### Begin, New -/
set_option maxHeartbeats 400000 in
theorem Begin_any (b : Nat) (most parts bytes : Int) (mv : Value) (w : World) (hb : w.heap[b]? = some (.cells #[.bool true, .int .i64 most, .int .i64 parts, .int .i64 bytes, mv] 52 (0, 0))) :
    Calls Try.prog 19 #[.pointer (some ⟨b, 0, none⟩)] w fun e w' => e = .returned (.tuple #[]) ∧ w'.heap[b]? = some (.cells #[.bool true, .int .i64 most, .int .i64 0, .int .i64 0, .map (some w.heap.size)] 52 (0, 0)) ∧ MapIs Try.prog 3 w' w.heap.size [] ∧ w.grownBy w' (some b) := by
  have c0 : w.cell? ⟨b, 0, none⟩ = some (.bool true) := cell_of_row w b 0 _ _ _ hb
  have c2 : w.cell? ⟨b, 2, none⟩ = some (.int .i64 parts) := cell_of_row w b 2 _ _ _ hb
  have c3 : w.cell? ⟨b, 3, none⟩ = some (.int .i64 bytes) := cell_of_row w b 3 _ _ _ hb
  have c4 : w.cell? ⟨b, 4, none⟩ = some mv := cell_of_row w b 4 _ _ _ hb
  have f2 := frozen_of_row w b 2 _ _ hb
  have f3 := frozen_of_row w b 3 _ _ hb
  have f4 := frozen_of_row w b 4 _ _ hb
  have hlt := lt_of_block hb
  have hmk := @run_makeMap Try.prog
  have Hb := Lib.hid hb
  clear hb
  go_enter Try.func19, Try.ntmps19
  go_wp2_with (go_at_call 28; refine (is_any b true _ (by assumption)).mono ?_; rintro e w' ⟨rfl, rfl⟩)
  go_end0
  have g1 := Go.heap_setCell_same _ b 2 _ _ (.int .i64 0) Hb.out
  have g2 := Go.heap_setCell_same _ b 3 _ _ (.int .i64 0) g1
  have g3 := Go.heap_setCell_same _ b 4 _ _ (.map (some w.heap.size)) g2
  have hne : w.heap.size ≠ b := by omega
  have hsz : ∀ (w : World) (x : Addr) (v : Value), (w.setCell x v).heap.size = w.heap.size := fun w x v => by simp [World.setCell]
  refine ⟨rfl, ?_, ?_, ?_⟩
  · rw [Below.heap_alloc _ _ _ (by simpa [hsz] using hlt)]
    simpa using g3
  · have := MapIs.made Try.prog 3 (((w.setCell ⟨b, 2, none⟩ (.int .i64 0)).setCell ⟨b, 3, none⟩ (.int .i64 0)).setCell ⟨b, 4, none⟩ (.map (some w.heap.size)))
    simpa [hsz] using this
  · refine ⟨rfl, rfl, rfl, by simp [World.setCell], fun k hk hkb => ?_⟩
    have hkb' : k ≠ b := fun e => hkb (by rw [e])
    rw [Below.heap_alloc _ _ _ (by simpa [hsz] using hk), Go.heap_setCell_other _ _ _ _ (by exact hkb'), Go.heap_setCell_other _ _ _ _ (by exact hkb'), Go.heap_setCell_other _ _ _ _ (by exact hkb')]

set_option maxHeartbeats 400000 in
theorem New_any (most : Int) (w : World) :
    Calls Try.prog 14 #[.int .i64 most] w fun e w' => ∃ b m, e = .returned (.pointer (some ⟨b, 0, none⟩)) ∧ w.heap.size ≤ b ∧ w.heap.size ≤ m ∧ w'.heap[b]? = some (.cells #[.bool true, .int .i64 (max most 0), .int .i64 0, .int .i64 0, .map (some m)] 52 (0, 0)) ∧ MapIs Try.prog 3 w' m [] ∧ Below w.heap.size w w' := by
  have HB := Lib.hid (Begin_any w.heap.size (max most 0) 0 0 (.map none) (w.alloc (.cells #[.bool true, .int .i64 (max most 0), .int .i64 0, .int .i64 0, .map none] 52)) (heap_alloc_new w _))
  have hm : (most < 0 ∧ max most 0 = 0) ∨ (0 = most) ∨ (0 < most ∧ max most 0 = most) := by omega
  rcases hm with ⟨h0, e⟩ | e | ⟨h0, e⟩
  · rw [e] at HB ⊢
    clear e
    go_enter Try.func14, Try.ntmps14
    go_wp2_with fail
    ((with_reducible refine HB.out.mono ?_); rintro e w' ⟨rfl, hh, hmp, hg⟩)
    go_wp2
    go_ret
    exact ⟨_, _, rfl, Nat.le_refl _, by simp, hh, hmp, ((Below.refl _ _).alloc (Nat.le_refl _) _).grown hg (by simp) (by intro k hk; cases hk; exact Nat.le_refl _)⟩
  · subst e
    rw [show max (0 : Int) 0 = 0 from rfl] at HB ⊢
    go_enter Try.func14, Try.ntmps14
    go_wp2_with fail
    ((with_reducible refine HB.out.mono ?_); rintro e w' ⟨rfl, hh, hmp, hg⟩)
    go_wp2
    go_ret
    exact ⟨_, _, rfl, Nat.le_refl _, by simp, hh, hmp, ((Below.refl _ _).alloc (Nat.le_refl _) _).grown hg (by simp) (by intro k hk; cases hk; exact Nat.le_refl _)⟩
  · rw [e] at HB ⊢
    clear e
    go_enter Try.func14, Try.ntmps14
    go_wp2_with fail
    ((with_reducible refine HB.out.mono ?_); rintro e w' ⟨rfl, hh, hmp, hg⟩)
    go_wp2
    go_ret
    exact ⟨_, _, rfl, Nat.le_refl _, by simp, hh, hmp, ((Below.refl _ _).alloc (Nat.le_refl _) _).grown hg (by simp) (by intro k hk; cases hk; exact Nat.le_refl _)⟩
end Go.Proofs.Ytjoddepnopbioaa
