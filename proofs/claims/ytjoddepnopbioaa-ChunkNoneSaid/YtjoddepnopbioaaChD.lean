/-
  chunk.Gather: Add.
-/
import Derived.Test.YtjoddepnopbioaaChC
import Derived.Deep.RegionHeld3
namespace Go.Proofs.Ytjoddepnopbioaa
open Go.RowKit Go.Maps
set_option linter.unusedVariables false
set_option linter.unusedSimpArgs false

/-- A gather in memory: its struct at block b, its map at block m, what it has: part, the slice that holds it, the bytes. -/
structure GAt (w : World) (B b m : Nat) (most parts bytes : Int) (GL : List (Int × Value × List Int)) : Prop where
  hB : B ≤ b
  hM : B ≤ m
  blk : w.heap[b]? = some (.cells #[.bool true, .int .i64 most, .int .i64 parts, .int .i64 bytes, .map (some m)] 52 (0, 0))
  map : MapIs Try.prog 3 w m (GL.map fun t => (Value.int .i64 t.1, t.2.1))
  own : ∀ t ∈ GL, Ow w B 5 .u8 t.2.1 t.2.2

theorem GAt.cells {w : World} {B b m : Nat} {most parts bytes : Int} {GL : List (Int × Value × List Int)} (h : GAt w B b m most parts bytes GL) : GCells w b m most parts bytes :=
  ⟨cell_of_row w b 0 _ _ _ h.blk, cell_of_row w b 1 _ _ _ h.blk, cell_of_row w b 2 _ _ _ h.blk, cell_of_row w b 3 _ _ _ h.blk, cell_of_row w b 4 _ _ _ h.blk⟩

theorem GAt.bad {w : World} {B b m : Nat} {most parts bytes : Int} {GL : List (Int × Value × List Int)} (h : GAt w B b m most parts bytes GL) (data : Option Addr) (n c : Nat) (part ps : Int) (hf : fitsB part ps parts GL.length = false) :
    Calls Try.prog 16 #[.pointer (some ⟨b, 0, none⟩), .int .i64 part, .int .i64 ps, .slice data n c] w fun e w' => e = .returned (.tuple #[.bool false, .int .i64 200]) ∧ w = w' := by
  have HF := Lib.hid (fits_any b m most parts bytes part ps _ w h.cells h.map)
  rw [List.length_map, hf] at HF
  have c0 := h.cells.c0
  clear h hf
  go_enter Try.func16, Try.ntmps16
  go_wp2_with (first
    | (go_at_call 28; refine (is_any b true _ (by assumption)).mono ?_; rintro e w' ⟨rfl, rfl⟩)
    | (go_at_call 29; refine HF.out.mono ?_; rintro e w' ⟨rfl, rfl⟩))
  go_ret2
  exact ⟨rfl, rfl⟩

/-- It has it. -/
theorem GAt.has {w : World} {B b m : Nat} {most parts bytes : Int} {GL : List (Int × Value × List Int)} (h : GAt w B b m most parts bytes GL) (data : Option Addr) (n c : Nat) (part ps : Int) (hf : fitsB part ps parts GL.length = true) (hh : ∃ t ∈ GL, t.1 = part)
    (hp : part ≤ 1024) (hp0 : 0 ≤ part) :
    Calls Try.prog 16 #[.pointer (some ⟨b, 0, none⟩), .int .i64 part, .int .i64 ps, .slice data n c] w fun e w' => e = .returned (.tuple #[.bool (wholeB parts GL.length), .int .i64 0]) ∧ Drew w w' := by
  obtain ⟨t, ht, rfl⟩ := hh
  have HF := Lib.hid (fits_any b m most parts bytes t.1 ps _ w h.cells h.map)
  rw [List.length_map, hf] at HF
  have HW := Lib.hid (Whole_any b m most parts bytes _ w h.cells h.map)
  rw [List.length_map] at HW
  have HM := Lib.hid h.map
  have Hin : Hid ((Value.int .i64 t.1, t.2.1) ∈ GL.map fun t => (Value.int .i64 t.1, t.2.1)) := List.mem_map.2 ⟨t, ht, rfl⟩
  have Hkey := Lib.hid (keyOf_int_mk Try.underlying3 (a := t.1) (wf_i64 (by omega) (by omega)))
  have hzero := zeroBs
  have c0 := h.cells.c0
  have c4 := h.cells.c4
  clear h hf
  go_enter Try.func16, Try.ntmps16
  go_wp2_with (first
    | (go_at_call 28; refine (is_any b true _ (by assumption)).mono ?_; rintro e w' ⟨rfl, rfl⟩)
    | (go_at_call 29; refine HF.out.mono ?_; rintro e w' ⟨rfl, rfl⟩)
    | (go_at_call 22; refine HW.out.mono ?_; rintro e w' ⟨rfl, ⟨q, rfl⟩⟩)
    | (at_lookup; refine wpl_look_hit (L := GL.map fun t => (Value.int .i64 t.1, t.2.1)) (by exact HM.out) kInt rfl _ _ 50 22 rfl Try.underlying50 (hzero _) _ t.2.1 _ Hkey.out Hin.out rfl rfl ?_))
  go_ret2
  exact ⟨rfl, (Drew.refl _).drewN _⟩

/-- There is no room for it. -/
theorem GAt.big {w : World} {B b m : Nat} {most parts bytes : Int} {GL : List (Int × Value × List Int)} (h : GAt w B b m most parts bytes GL) (data : Option Addr) (n c : Nat) (part ps : Int) (hf : fitsB part ps parts GL.length = true) (hh : ∀ t ∈ GL, t.1 ≠ part)
    (hp : part ≤ 1024) (hp0 : 0 ≤ part) (hb0 : 0 ≤ bytes) (hbm : bytes ≤ most) (hmm : most ≤ 9223372036854775807) (hn : n ≤ 140737488351232) (hbig : most - bytes < n) :
    Calls Try.prog 16 #[.pointer (some ⟨b, 0, none⟩), .int .i64 part, .int .i64 ps, .slice data n c] w fun e w' => e = .returned (.tuple #[.bool false, .int .i64 3]) ∧ Drew w w' := by
  have HF := Lib.hid (fits_any b m most parts bytes part ps _ w h.cells h.map)
  rw [List.length_map, hf] at HF
  have HM := Lib.hid h.map
  have Hno : Hid (∀ p ∈ GL.map fun t => (Value.int .i64 t.1, t.2.1), p.1 ≠ Value.int .i64 part) := fun p hp e => by
    obtain ⟨t, ht, rfl⟩ := List.mem_map.1 hp
    simp only [Value.int.injEq, true_and] at e
    exact hh t ht e
  have Hkey := Lib.hid (keyOf_int_mk Try.underlying3 (a := part) (wf_i64 (by omega) (by omega)))
  have hzero := zeroBs
  obtain ⟨c0, c1, c2, c3, c4⟩ := h.cells
  clear h hf hh
  go_enter Try.func16, Try.ntmps16
  go_wp2_with (first
    | (go_at_call 28; refine (is_any b true _ (by assumption)).mono ?_; rintro e w' ⟨rfl, rfl⟩)
    | (go_at_call 29; refine HF.out.mono ?_; rintro e w' ⟨rfl, rfl⟩)
    | (at_lookup; refine wpl_look_miss (L := GL.map fun t => (Value.int .i64 t.1, t.2.1)) (by exact HM.out) kInt rfl _ _ 50 22 rfl Try.underlying50 (hzero _) _ _ Hkey.out Hno.out rfl rfl ?_))
  go_quiet (fail)
  go_wp2
  go_ret2
  exact ⟨rfl, (Drew.refl _).drewN _⟩

set_option maxHeartbeats 1600000 in
set_option maxRecDepth 100000 in
/-- It is taken. -/
theorem GAt.takes {w : World} {B b m : Nat} {most parts bytes : Int} {GL : List (Int × Value × List Int)} (h : GAt w B b m most parts bytes GL) (data : Option Addr) (n c : Nat) (l : List Int) (part ps : Int) (hf : fitsB part ps parts GL.length = true) (hh : ∀ t ∈ GL, t.1 ≠ part)
    (hp : part ≤ 1024) (hp0 : 0 ≤ part) (hb0 : 0 ≤ bytes) (hbm : bytes ≤ most) (hmm : most ≤ 9223372036854775807) (hd : Rd w .u8 data n l) (hnone : data = none → c = 0) (hroom : n ≤ most - bytes) (hBw : B ≤ w.heap.size) (hlen : GL.length ≤ 1024)
    (hdb : ∀ x, data = some x → x.block ≠ b) :
    Calls Try.prog 16 #[.pointer (some ⟨b, 0, none⟩), .int .i64 part, .int .i64 ps, .slice data n c] w fun e w' => ∃ v, e = .returned (.tuple #[.bool (wholeB ps (GL.length + 1)), .int .i64 0]) ∧ GAt w' B b m most ps (bytes + n) ((part, v, l) :: GL) ∧ Chg (fun k => k = b ∨ k = m) w w' := by
  have HF := Lib.hid (fits_any b m most parts bytes part ps _ w h.cells h.map)
  rw [List.length_map, hf] at HF
  have HM := Lib.hid h.map
  have Hno : Hid (∀ p ∈ GL.map fun t => (Value.int .i64 t.1, t.2.1), p.1 ≠ Value.int .i64 part) := fun p hp e => by
    obtain ⟨t, ht, rfl⟩ := List.mem_map.1 hp
    simp only [Value.int.injEq, true_and] at e
    exact hh t ht e
  have Hkey := Lib.hid (keyOf_int_mk Try.underlying3 (a := part) (wf_i64 (by omega) (by omega)))
  have hzero := zeroBs
  have hn := hd.2.1
  obtain ⟨c0, c1, c2, c3, c4⟩ := h.cells
  have hlt := lt_of_block h.blk
  have f2 := frozen_of_row w b 2 _ _ h.blk
  have f3 := frozen_of_row w b 3 _ _ h.blk
  have Hg := Lib.hid h
  have Hd := Lib.hid hd
  have Hnone := Lib.hid hnone
  have Hdb := Lib.hid hdb
  clear h hf hh hd hnone hdb
  go_enter Try.func16, Try.ntmps16
  go_wp2_with (first
    | (go_at_call 28; refine (is_any b true _ (by assumption)).mono ?_; rintro e w' ⟨rfl, rfl⟩)
    | (go_at_call 29; refine HF.out.mono ?_; rintro e w' ⟨rfl, rfl⟩)
    | (at_lookup; refine wpl_look_miss (L := GL.map fun t => (Value.int .i64 t.1, t.2.1)) (by exact HM.out) kInt rfl _ _ 50 22 rfl Try.underlying50 (hzero _) _ _ Hkey.out Hno.out rfl rfl ?_))
  go_quiet (fail)
  go_wp2_with fail
  generalize hW : (((w.drewN nq).setCell ⟨b, 2, none⟩ (.int .i64 ps)).setCell ⟨b, 3, none⟩ (.int .i64 (bytes + (n : Int)))) = W1
  have hblk : W1.heap[b]? = some (.cells #[.bool true, .int .i64 most, .int .i64 ps, .int .i64 (bytes + (n : Int)), .map (some m)] 52 (0, 0)) := by
    have g1 := Go.heap_setCell_same (w.drewN nq) b 2 _ _ (.int .i64 ps) Hg.out.blk
    have g2 := Go.heap_setCell_same _ b 3 _ _ (.int .i64 (bytes + (n : Int))) g1
    rw [← hW]
    simpa using g2
  have hoth : ∀ k, k ≠ b → W1.heap[k]? = w.heap[k]? := by
    intro k hk
    rw [← hW, Go.heap_setCell_other _ _ _ _ (by exact hk), Go.heap_setCell_other _ _ _ _ (by exact hk)]
    rfl
  have hsz : W1.heap.size = w.heap.size := by
    rw [← hW]
    simp [World.drewN, World.setCell]
  have Hchg : Hid (Chg (fun k => k = b ∨ k = m) w W1) := ⟨by rw [← hW]; rfl, by rw [← hW]; rfl, by rw [← hW]; rfl, by omega, fun k _ hk => hoth k (fun e => hk (.inl e))⟩
  have hmb : m ≠ b := by
    rintro rfl
    obtain ⟨es, cl, h1, _⟩ := HM.out
    rw [Hg.out.blk] at h1
    simp at h1
  have HM1 : Hid (MapIs Try.prog 3 W1 m (GL.map fun t => (Value.int .i64 t.1, t.2.1))) := HM.out.kept (hoth m hmb)
  have Hd1 : Hid (Rd W1 .u8 data n l) := by
    obtain ⟨h1, h2, h3⟩ := Hd.out
    refine ⟨h1, h2, fun hp => ?_⟩
    obtain ⟨bb, oo, e, hbb, hcc⟩ := h3 hp
    refine ⟨bb, oo, e, by omega, fun j hj => ?_⟩
    have := Hdb.out _ e
    rw [World.cell?_of_block (w := w) (hoth bb this)]
    exact hcc j hj
  have Hown1 : Hid (∀ t ∈ GL, Ow W1 B 5 .u8 t.2.1 t.2.2) := by
    intro t ht
    have h1 := Hg.out.own t ht
    refine World.ownsRow.kept (row := some b) h1 ⟨by rw [← hW]; rfl, by rw [← hW]; rfl, by rw [← hW]; rfl, by omega, fun k _ hk => hoth k (fun e => hk (by rw [e]))⟩ ?_
    rcases h1.2 with ⟨e, _⟩ | ⟨g, cap, cur, e, _, hgg, _⟩
    · rw [e]; exact .inl rfl
    · rw [e]
      right
      simp only [Value.ownBlock, ne_eq, Option.some.injEq]
      rintro rfl
      rw [Hg.out.blk] at hgg
      simp at hgg
  have d4 : W1.cell? ⟨b, 4, none⟩ = some (.map (some m)) := cell_of_row W1 b 4 _ _ _ hblk
  have hlt1 : b < W1.heap.size := by omega
  have Hblk := Lib.hid hblk
  have Hsz := Lib.hid hsz
  have HBw1 : B ≤ W1.heap.size := by omega
  have Hmb := Lib.hid hmb
  have hmlt : m < W1.heap.size := HM1.out.lt
  clear c0 c1 c2 c3 c4 f2 f3 hblk hsz hmb hW
  have Hoth := Lib.hid hoth
  clear hoth
  go_region_held3 (fun w' => w'.cell? ⟨b, 4, none⟩ = some (.map (some m)))
    (first
      | go_keep
      | (refine (World.cell?_of_block (w := W1) (a := ⟨b, 4, none⟩) ?_).trans d4; exact (hgrow.block b (by simp; omega) (by simp [Value.ownBlock]; omega)).trans (Below.heap_alloc _ _ _ hlt1))
      | (rw [World.cell?_of_block (hgrow2.block b (by have := hgrow.size; simp at this; omega) (by simp; exact fun e => Hmb.out e.symm))]; assumption))
    (first
      | (refine step_of_op rfl (op_appN eBs (.tmp 64) (.tmp 65) rfl W1.heap.size (.slice (some ⟨W1.heap.size, 0, none⟩) 0 0) 0 [] rfl (World.ownsRow_lit _ #[] 0 (Nat.le_refl _) (by unfold maxLen; omega) rfl)  .u8 data n c l rfl (Hd1.out.kept (by repeat (first | exact Below.refl _ _ | refine Below.drew ?_ | refine Below.drewN ?_ _ | refine Below.alloc ?_ (Nat.le_refl _) _))) Hnone.out (by unfold maxLen; omega) (by omega) (by simp) ?_); intro v1 w1 hown hgrow)
      | (obtain ⟨w2, hrun2, hmp, hgrow2⟩ := run_put_new (P := Try.prog) (val := v1) (HM1.out.kept (w' := w1) (by rw [hgrow.block m (by simp; omega) (by simp [Value.ownBlock]; omega)]; exact Below.heap_alloc _ _ _ hmlt)) kInt Try.underlying50 (by simp; unfold maxLen; omega) Hkey.out Hno.out; go_simp))
  have Hv : Hid (Ow w1 W1.heap.size 5 .u8 v1 l) := Ow.of (n := 0 + n) hown
  have hmW : m ≠ W1.heap.size := by omega
  have hbW : b ≠ W1.heap.size := by omega
  have h12 : ∀ k, k < W1.heap.size → k ≠ m → w2.heap[k]? = W1.heap[k]? := by
    intro k hk hkm
    have e1 := hgrow.block k (by simp; omega) (by simp [Value.ownBlock]; omega)
    have e2 := hgrow2.block k (by have := hgrow.size; simp at this; omega) (by simpa using hkm)
    rw [e2, e1]
    exact Below.heap_alloc _ _ _ hk
  have hsz2 : W1.heap.size ≤ w2.heap.size := by
    have e1 := hgrow.size
    have e2 := hgrow2.size
    simp at e1
    omega
  have Hat : Hid (GAt w2 B b m most ps (bytes + n) ((part, v1, l) :: GL)) := by
    refine ⟨Hg.out.hB, Hg.out.hM, (h12 b hlt1 (Ne.symm Hmb.out)).trans Hblk.out, hmp, ?_⟩
    intro t ht
    rcases List.mem_cons.1 ht with rfl | ht
    · have h1 := ownsRow_mono Hv.out HBw1
      refine World.ownsRow.kept (row := some m) h1 hgrow2 ?_
      rcases h1.2 with ⟨e, _⟩ | ⟨g, cap, cur, e, _, hgg, _⟩
      · rw [e]; exact .inl rfl
      · rw [e]
        right
        simp only [Value.ownBlock, ne_eq, Option.some.injEq]
        rintro rfl
        have e1 := hgrow.block g (by simp; omega) (by simp [Value.ownBlock]; omega)
        obtain ⟨es, cl, h5, _⟩ := HM1.out
        rw [e1] at hgg
        have h6 := (Below.heap_alloc W1 (.cells #[] 5) g hmlt).trans h5
        have h7 : (W1.alloc (.cells #[] 5)).drew.heap[g]? = (W1.alloc (.cells #[] 5)).heap[g]? := rfl
        rw [h7, h6] at hgg
        simp at hgg
    · have h1 := Hown1.out t ht
      refine World.ownsRow.kept (row := some m) h1 ⟨?_, ?_, ?_, hsz2, fun k hk hkm => h12 k hk (fun e => hkm (by rw [e]))⟩ ?_
      · rw [hgrow2.os, hgrow.os]; rfl
      · rw [hgrow2.tape, hgrow.tape]; rfl
      · rw [hgrow2.output, hgrow.output]; rfl
      · rcases h1.2 with ⟨e, _⟩ | ⟨g, cap, cur, e, _, hgg, _⟩
        · rw [e]; exact .inl rfl
        · rw [e]
          right
          simp only [Value.ownBlock, ne_eq, Option.some.injEq]
          rintro rfl
          obtain ⟨es, cl, h5, _⟩ := HM1.out
          rw [h5] at hgg
          simp at hgg
  have Hchg2 : Hid (Chg (fun k => k = b ∨ k = m) w w2) := by
    refine Hchg.out.trans ⟨?_, ?_, ?_, hsz2, fun k hk hkm => h12 k hk (fun e => hkm (.inr e))⟩
    · rw [hgrow2.os, hgrow.os]; rfl
    · rw [hgrow2.tape, hgrow.tape]; rfl
    · rw [hgrow2.output, hgrow.output]; rfl
  have HW := Lib.hid (Whole_any b m most ps (bytes + n) _ w2 Hat.out.cells Hat.out.map)
  rw [List.length_map, List.length_cons] at HW
  clear hown hgrow hrun2 hmp hgrow2 h12 hsz2
  go_wp2_with (go_at_call 22; refine HW.out.mono ?_; rintro e w' ⟨rfl, ⟨q, rfl⟩⟩)
  go_ret2
  exact ⟨v1, rfl, ⟨Hat.out.hB, Hat.out.hM, Hat.out.blk, Hat.out.map, Hat.out.own⟩, ⟨Hchg2.out.os, Hchg2.out.tape, Hchg2.out.output, Hchg2.out.size, Hchg2.out.block⟩⟩
end Go.Proofs.Ytjoddepnopbioaa
