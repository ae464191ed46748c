/-
  regattalaw20.awake: the chapter's example comes out.
-/
import Derived.Test.YtjoddepnopbioaaChD
import Derived.Laws.BytesArg
import Derived.Lib.SlBytesConst
namespace Go.Proofs.Ytjoddepnopbioaa
open Go.RowKit Go.Maps
set_option linter.unusedVariables false
set_option linter.unusedSimpArgs false

theorem Rd_lit (w : World) (k : IntKind) (E : TypeId) (l : List Int) (fr : Nat × Nat) (hl : l.length ≤ 140737488351232) : Rd (w.alloc (.cells (l.map (Value.int k)).toArray E fr)) k (some ⟨w.heap.size, 0, none⟩) l.length l := by
  refine ⟨rfl, hl, fun _ => ⟨w.heap.size, 0, rfl, by simp, fun j hj => ?_⟩⟩
  rw [cell_of_row _ _ _ _ _ _ (heap_alloc_new w _)]
  simp [List.getElem?_eq_getElem hj]

theorem GAt.kept {w w' : World} {B b m : Nat} {most parts bytes : Int} {GL : List (Int × Value × List Int)} (h : GAt w B b m most parts bytes GL) (hb : Below w.heap.size w w') : GAt w' B b m most parts bytes GL :=
  ⟨h.hB, h.hM, (hb.block b (lt_of_block h.blk)).trans h.blk, h.map.kept (hb.block m h.map.lt), fun t ht => Ow.kept (h.own t ht) hb⟩

theorem below_alloc (w : World) (o : Obj) : Below w.heap.size w (w.alloc o) := (Below.refl _ _).alloc (Nat.le_refl _) _

set_option maxHeartbeats 1600000 in
set_option maxRecDepth 100000 in
theorem awake_any (w : World) : Calls Try.prog 8 #[] w fun e w' => e = .returned (.bool true) ∧ Below w.heap.size w w' := by
  have kc := fun (w : World) (C : Array Value) (n c : Nat) => Lib.run_convert_bytes_const (P := Try.prog) w 22 5 C n c Try.underlying22 Try.underlying5
  go_enter Try.func8, Try.ntmps8
  go_wp2_with fail
  refine (Cut_any _ 5 5 [97, 98, 99, 100, 101] 2 _ (by exact Rd_lit w .u8 5 [97, 98, 99, 100, 101] (5, 6) (by simp)) (by intro h; cases h) (Nat.le_refl _) (by unfold maxLen; omega) 3 (by decide) (by omega) 2 rfl (by omega) (by omega) (by omega)).mono ?_
  rintro e w1 ⟨v, xs, rfl, hrow, hos, hb1⟩
  obtain ⟨al, cl, rfl, hcl, hal⟩ := ownsRow_form hrow
  have Hb1 := Lib.hid (((Below.refl w.heap.size w).alloc (Nat.le_refl _) _).trans (hb1.mono (by simp)))
  have Hrow := Lib.hid hrow
  have Hos := Lib.hid hos
  have Hlt := Lib.hid (show w.heap.size + 1 ≤ w1.heap.size by have := hb1.size; simpa using this)
  clear hrow hos hb1 hal
  go_wp2_with fail
  refine (New_any 100 w1).mono ?_
  rintro e w2 ⟨b, m, rfl, hb, hm, hblk, hmap, hb2⟩
  have Hat : Hid (GAt w2 w1.heap.size b m (max 100 0) 0 0 []) := ⟨hb, hm, hblk, hmap, by simp⟩
  have Hb2 := Lib.hid hb2
  have Hbw2 := Lib.hid (lt_of_block hblk)
  have Hbb := Lib.hid hb
  have Hmm := Lib.hid hm
  clear hb hm hblk hmap hb2
  go_wp2_with fail
  refine (GAt.takes (Hat.out.kept (below_alloc _ _)) _ 1 1 [101] 2 3 (by decide) (by simp) (by omega) (by omega) (by omega) (by omega) (by decide) (by exact Rd_lit w2 .u8 5 [101] (1, 2) (by simp)) (by intro h; cases h) (by omega) (by have := Hb2.out.size; simp; omega) (by simp) (by intro x hx; cases hx; have := Hbw2.out; simp; omega)).mono ?_
  rintro e w3 ⟨v3, rfl, hat3, hch3⟩
  have Hat3 := Lib.hid hat3
  have Hb3 := Lib.hid (Hb2.out.trans ((((below_alloc w2 (.cells #[.int .u8 101] 5 (1, 2))).mono Hb2.out.size).trans (hch3.below (by have := Hb2.out.size; simp; omega) (by rintro k (rfl | rfl); exact Hbb.out; exact Hmm.out)))))
  clear hat3 hch3
  go_wp2_with fail
  refine (GAt.takes (Hat3.out.kept (below_alloc _ _)) _ 2 2 [97, 98] 0 3 (by simp [fitsB]) (by simp) (by omega) (by omega) (by omega) (by omega) (by decide) (by exact Rd_lit w3 .u8 5 [97, 98] (2, 3) (by simp)) (by intro h; cases h) (by omega) (by have := Hb3.out.size; simp; omega) (by simp) (by intro x hx; cases hx; have := lt_of_block Hat3.out.blk; simp; omega)).mono ?_
  rintro e w4 ⟨v4, rfl, hat4, hch4⟩
  have Hat4 := Lib.hid hat4
  have Hb4 := Lib.hid (Hb3.out.trans ((((below_alloc w3 (.cells #[.int .u8 97, .int .u8 98] 5 (2, 3))).mono Hb3.out.size).trans (hch4.below (by have := Hb3.out.size; simp; omega) (by rintro k (rfl | rfl); exact Hbb.out; exact Hmm.out)))))
  clear hat4 hch4
  go_wp2_with fail
  refine (Missing_any b m _ _ _ _ w4 Hat4.out.cells Hat4.out.map (by simp [wholeB]) 1 ⟨fun i hi => ⟨v4, by simp; omega⟩, by simp⟩ (by omega)).mono ?_
  rintro e w5 ⟨rfl, ⟨q, rfl⟩⟩
  -- the cells of the parts
  have Hrow4 := Lib.hid (ownsRow_kept Hrow.out Hb4.out)
  have Hos4 := Lib.hid (Hos.out.kept Hb4.out)
  have hx2 := Hos4.out.2 2 (by decide)
  rw [show (pieces [97, 98, 99, 100, 101] 2 3)[2]?.getD [] = [101] from rfl] at hx2
  obtain ⟨a2, c2, hx2e, _, ha2⟩ := ownsRow_form hx2
  rw [hx2e] at hx2
  obtain ⟨g, rfl, _, _, hcell, _⟩ := ownsRow_at Hrow4.out (i := 2) (by omega)
  have hlx := Hrow.out.1
  have hxs : xs[2]? = some (.slice a2 1 c2) := by
    have h3 : 2 < xs.length := by omega
    rw [List.getElem?_eq_getElem h3] at hx2e ⊢
    simpa using hx2e
  simp only [List.length_cons, List.length_nil, Nat.zero_add] at hx2
  rw [hxs] at hcell
  have hx3 : Rd w4 .u8 a2 1 [101] := by
    have := Ow.rd (n := 1) (c := c2) (a := a2) hx2 (by omega)
    exact this
  obtain ⟨g2, o2, rfl, _, hc2⟩ := hx3.at (i := 0) (by omega)
  have hc2' : ∀ i, i < 1 → w4.cell? ⟨g2, o2 + i, none⟩ = some (.int .u8 (([101] : List Int).getD i 0)) := by
    intro i hi
    obtain rfl : i = 0 := by omega
    exact hc2
  have hcv : ∀ q, (convert 22 9 (.slice (some ⟨g2, o2, none⟩) 1 c2)).run Try.prog (w4.drewN q) = .ok (.string ⟨#[101]⟩) (w4.drewN q) := fun q =>
    run_convert_bytes_arg (P := Try.prog) (w4.drewN q) 22 5 Try.underlying22 Try.underlying5 g2 o2 1 c2 [101] rfl hc2' 9 Try.underlying9
  clear hx2 hx2e hx3 hxs hlx ha2 kc hc2'
  go_wp2
  go_ret
  exact ⟨rfl, (Hb1.out.trans (Hb4.out.mono (by have := Hlt.out; omega))).trans (Drew.below ((Drew.refl _).drewN _) _)⟩
end Go.Proofs.Ytjoddepnopbioaa
