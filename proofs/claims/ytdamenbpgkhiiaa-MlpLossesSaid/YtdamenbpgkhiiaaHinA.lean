/-
  Layers mlp and vec: what lacks to the right side; sums of parts.
-/
import Derived.Test.YtdamenbpgkhiiaaRefS
import Derived.Test.YtdamenbpgkhiiaaVecA
namespace Go.Proofs.Ytdamenbpgkhiiaa
open Go.RowKit
set_option linter.unusedVariables false
set_option linter.unusedSimpArgs false

def lks (y t : List Int) (k : Nat) : List Int := (List.range k).map fun i => lackF (y[i]?.getD 0) (t[i]?.getD 0)
theorem lks_succ (y t : List Int) (k : Nat) : lks y t (k + 1) = lks y t k ++ [lackF (y[k]?.getD 0) (t[k]?.getD 0)] := by simp [lks, List.range_succ]
theorem lks_len (y t : List Int) (k : Nat) : (lks y t k).length = k := by simp [lks]
theorem lks_at (y t : List Int) {i m : Nat} (h : i < m) : (lks y t m)[i]?.getD 0 = lackF (y[i]?.getD 0) (t[i]?.getD 0) := by
  simp [lks, List.getElem?_map, List.getElem?_range h]

set_option maxHeartbeats 1600000 in
set_option maxRecDepth 20000 in
theorem lacks_any (u : Option Nat) (n : Int) (m ca cb : Nat) (aa ab : Option Addr) (y t : List Int) (w : World)
    (ha : Rd w .i64 aa m y) (hb : Rd w .i64 ab m t) (hm : m ≤ 65536) (ia : A64 y) (ib : A64 t) (hu : Un w u n) (oa : 0 < m → ∀ z, aa = some z → ¬ UC u z.block) (ob : 0 < m → ∀ z, ab = some z → ¬ UC u z.block) :
    Calls Try.prog 174 #[.agg #[], uV u, .slice aa m ca, .slice ab m cb] w fun e w' => ∃ v, e = .returned v ∧ Ow w' w.heap.size 39 .i64 v (lks y t m) ∧ Chg (UC u) w w' ∧ Un w' u (cntH n y t m) := by
  obtain ⟨i0, hi, hz0, hz1, hz2⟩ := eFs1
  have hUlt := Lib.hid (fun k (hk : UC u k) => hu.lt hk)
  have HA := Lib.hid ha; have HB := Lib.hid hb; have IA := Lib.hid ia; have IB := Lib.hid ib
  have OA := Lib.hid oa; have OB := Lib.hid ob
  have HU := Lib.hid hu
  clear ha hb ia ib hu oa ob
  generalize huv : uV u = uv at *
  have Huv := Lib.hid huv; clear huv
  go_enter Try.func174, Try.ntmps174
  go_wp2_with (at_make; refine wpList_make_own _ rfl _ _ 62 rfl w.heap.size 39 i0 (.int .i64 0) 1 eFs.und hi hz0 hz1 _ _ _ m rfl rfl rfl ?b1 ?b2 ?b3 ?_)
  case b1 => rw [hz2]; omega
  case b2 => unfold maxLen; omega
  case b3 => simp
  intro w1 hown hg
  clear hi hz0 hz1 hz2
  have Hb1 : Hid (Below w.heap.size w w1) := Lib.hid (((Below.refl _ _).alloc (Nat.le_refl _) _).trans (Below.mono (⟨hg.os, hg.tape, hg.output, hg.size, fun k hk => hg.block k hk (by simp)⟩ : Below (w.alloc (.cells #[] _)).heap.size (w.alloc (.cells #[] _)) w1) (by simp)))
  have Ho1 := Lib.hid hown
  clear hown hg
  go_wp2
  go_loopw [9, 17] (fun lv k wr => ∃ o : Nat, o ≤ m ∧ k = .int .i64 o ∧ Hid (wr.ownsRow w.heap.size 39 1 lv o ((lks y t o).map (Value.int .i64))) ∧ Hid (Chg (UC u) w wr) ∧ Hid (Un wr u (cntH n y t o))) (fun _ k _ => m - (intOf k).toNat)
  case atStart => exact ⟨0, Nat.zero_le _, rfl, Ho1.out, Chg.of_below Hb1.out, HU.out.kept Hb1.out⟩
  case round =>
    obtain ⟨o, ho, rfl, hown, hch, hun⟩ := hrel
    by_cases hlt : o < m
    · obtain ⟨ba, oa, rfl, hba, hca⟩ := HA.out.at hlt
      obtain ⟨bb, obb, rfl, hbb, hcb⟩ := HB.out.at hlt
      have ea : wr.cell? ⟨ba, oa + o, none⟩ = some (.int .i64 (y[o]?.getD 0)) := (hch.out.cell hba (OA.out (by omega) _ rfl)).trans hca
      have eb : wr.cell? ⟨bb, obb + o, none⟩ = some (.int .i64 (t[o]?.getD 0)) := (hch.out.cell hbb (OB.out (by omega) _ rfl)).trans hcb
      have hzr := hch.out.size
      have Hs1 := Lib.hid (lks_succ y t o)
      have HM := Lib.hid (fun w h => uMul_u u (cntH n y t o) (t[o]?.getD 0) (y[o]?.getD 0) w h (IB.out o) (IA.out o))
      have HS := Lib.hid (fun w h => uSub_u u (upC (cntH n y t o) (over (rne (t[o]?.getD 0 * y[o]?.getD 0) 4294967296))) 4294967296 (prodF (y[o]?.getD 0) (t[o]?.getD 0)) w h (by unfold I64; omega) (clampI_I64 _))
      have Hcd : Hid (cntH n y t (o + 1) = upC (upC (cntH n y t o) (over (rne (t[o]?.getD 0 * y[o]?.getD 0) 4294967296))) (over (4294967296 - prodF (y[o]?.getD 0) (t[o]?.getD 0)))) := Lib.hid rfl
      rw [show clampI (rne (t[o]?.getD 0 * y[o]?.getD 0) 4294967296) = prodF (y[o]?.getD 0) (t[o]?.getD 0) from rfl, Huv.out] at HM
      rw [show clampI (4294967296 - prodF (y[o]?.getD 0) (t[o]?.getD 0)) = lackF (y[o]?.getD 0) (t[o]?.getD 0) from rfl, Huv.out] at HS
      clear hca hcb
      generalize over (4294967296 - prodF (y[o]?.getD 0) (t[o]?.getD 0)) = o2 at *
      generalize over (rne (t[o]?.getD 0 * y[o]?.getD 0) 4294967296) = o1 at *
      generalize lackF (y[o]?.getD 0) (t[o]?.getD 0) = l at *
      generalize prodF (y[o]?.getD 0) (t[o]?.getD 0) = q at *
      generalize y[o]?.getD 0 = ya at *
      generalize t[o]?.getD 0 = tb at *
      have ho0 : (0 : Int) ≤ (o : Int) := by omega
      have hom : (o : Int) < (m : Int) := by omega
      go_wp2_with fail
      ((with_reducible refine (HM.out _ hun.out).mono ?_); rintro e w7 ⟨rfl, hc7, hu7⟩)
      go_wp2_with fail
      ((with_reducible refine (HS.out _ hu7).mono ?_); rintro e w8 ⟨rfl, hc8, hu8⟩)
      have Hc8 := Lib.hid (hc7.trans hc8)
      have Hown8 := Lib.hid (ownsRow_chg hown.out Hc8.out (fun k hk => hUlt.out k hk))
      have Hch8 := Lib.hid (hch.out.trans Hc8.out)
      have hz8 := Hch8.out.size
      have Hu8 := Lib.hid hu8
      clear hc7 hu7 hc8 hu8 HM HS
      go_wp2_with (at_builtin; refine wpl_app1 eFs rfl _ _ rfl w.heap.size _ o _ rfl (Hown8.out.alloc _) w8.heap.size (.int .i64 l) rfl (World.cell?_alloc_at _ _ _ _ rfl) rfl ?c3 ?c4 ?c5 ?_)
      case c3 => unfold maxLen; omega
      case c4 => omega
      case c5 => first | omega | (simp; omega)
      intro v' w9 hown9 hg9
      have Hch9 := Lib.hid (Chg.grownOf (Hch8.out.alloc _) (Hown8.out.alloc _) hg9 (Nat.le_refl _))
      have Hu9 := Lib.hid (Un.grown (Hu8.out.kept ((Below.refl _ _).alloc (Nat.le_refl _) _)) (Hown8.out.alloc _) hg9 (fun k hk => hUlt.out k hk))
      have Hown9 := Lib.hid hown9
      clear hown9 hg9
      go_wp2
      go_roundw
      case rel => exact ⟨o + 1, by omega, by go_num, Lib.hid (by rw [Hs1.out]; simpa using Hown9.out), Hch9.out, Lib.hid (by rw [Hcd.out]; exact Hu9.out)⟩
      case measure => simp [intOf]; omega
    · obtain rfl : o = m := by omega
      go_wp2
      go_ret
      exact ⟨_, rfl, Ow.of hown.out, hch.out, hun.out⟩

/-! ### sums of parts -/
def sumI (l : List Int) : Nat → Int
  | 0 => 0
  | k + 1 => sumI l k + l[k]?.getD 0
theorem sumI_bd {l : List Int} (h : A64 l) : ∀ k, -(k * 9223372036854775808) ≤ sumI l k ∧ sumI l k ≤ k * 9223372036854775808
  | 0 => by simp [sumI]
  | k + 1 => by
    have h1 := sumI_bd h k
    have h2 := h k
    unfold I64 at h2
    simp only [sumI]
    omega
/-- A wide number's cells at a block. -/
structure WAt (w : World) (g : Nat) (v : Int) : Prop where
  c0 : w.cell? ⟨g, 0, none⟩ = some (.int .i64 (whi v))
  c1 : w.cell? ⟨g, 1, none⟩ = some (.int .u64 (wlo v))
  f : ∀ i, w.frozen? ⟨g, i, none⟩ = false
theorem WAt.lt {w : World} {g : Nat} {v : Int} (h : WAt w g v) : g < w.heap.size := World.block_lt_of_cell? _ _ h.c0
theorem WAt.kept {w w' : World} {g : Nat} {v : Int} (h : WAt w g v) (hb : Below w.heap.size w w') : WAt w' g v :=
  ⟨(hb.cell (p := ⟨g, 0, none⟩) h.lt).trans h.c0, (hb.cell (p := ⟨g, 1, none⟩) h.lt).trans h.c1, fun i => (hb.frozen (p := ⟨g, i, none⟩) h.lt).trans (h.f i)⟩
theorem WAt.set {w : World} {g : Nat} {v : Int} (h : WAt w g v) (v' : Int) : WAt ((w.setCell ⟨g, 0, none⟩ (.int .i64 (whi v'))).setCell ⟨g, 1, none⟩ (.int .u64 (wlo v'))) g v' := by
  obtain ⟨c0, c1, f⟩ := h
  exact ⟨by go_simp, by go_simp, fun i => by go_simp⟩
theorem whi0 : whi 0 = 0 := by unfold whi wrap64; omega
theorem wlo0 : wlo 0 = 0 := by decide
theorem WAt.zero (w : World) : WAt (w.alloc (.cells #[.int .i64 0, .int .u64 0] 194)) w.heap.size 0 := ⟨by rw [whi0]; exact World.cell?_alloc_at _ _ _ _ rfl, by rw [wlo0]; exact World.cell?_alloc_at _ _ _ _ rfl, fun i => by go_simp⟩

set_option maxHeartbeats 1600000 in
set_option maxRecDepth 20000 in
theorem total_any (a : Option Addr) (n c : Nat) (l : List Int) (w : World) (h : Rd w .i64 a n l) (hn : n ≤ 65536) (ia : A64 l) :
    Calls Try.prog 178 #[.slice a n c] w fun e w' => e = .returned (W (sumI l n)) ∧ Below w.heap.size w w' := by
  have HA := Lib.hid h
  have IA := Lib.hid ia
  clear h ia
  go_enter Try.func178, Try.ntmps178
  go_wp2
  have hR0 : Hid (WAt ((w.alloc (.cells #[.int .i64 0, .int .u64 0] 194)).alloc (.cells #[.int .i64 0, .int .u64 0] 194)) w.heap.size 0) := Lib.hid ((WAt.zero w).kept ((Below.refl _ _).alloc (Nat.le_refl _) _))
  have hT0 : Hid (WAt ((w.alloc (.cells #[.int .i64 0, .int .u64 0] 194)).alloc (.cells #[.int .i64 0, .int .u64 0] 194)) (w.heap.size + 1) 0) := Lib.hid (by
    have h9 := WAt.zero (w.alloc (.cells #[.int .i64 0, .int .u64 0] 194))
    rw [show (w.alloc (.cells #[.int .i64 0, .int .u64 0] 194)).heap.size = w.heap.size + 1 by simp] at h9
    exact h9)
  have hb0 : Hid (Below w.heap.size w ((w.alloc (.cells #[.int .i64 0, .int .u64 0] 194)).alloc (.cells #[.int .i64 0, .int .u64 0] 194))) := Lib.hid (by (repeat first | assumption | exact Below.refl _ _ | refine Below.drew ?_ | refine Below.drewN ?_ _ | refine Below.alloc ?_ (by (first | omega | (simp; done) | (simp; omega))) _ | refine Below.setCell ?_ (by (first | omega | (simp; done) | (simp; omega))) _ | refine Below.trans ?_ (Below.mono (by assumption) (by (first | omega | (simp; done) | (simp; omega))))))
  have hz0 : w.heap.size + 2 ≤ ((w.alloc (.cells #[.int .i64 0, .int .u64 0] 194)).alloc (.cells #[.int .i64 0, .int .u64 0] 194)).heap.size := by simp
  generalize hW0 : (w.alloc (.cells #[.int .i64 0, .int .u64 0] 194)).alloc (.cells #[.int .i64 0, .int .u64 0] 194) = W0 at *
  clear hW0
  go_loopw [8] (fun j wr => ∃ i : Nat, i ≤ n ∧ j = .int .i64 i ∧ Hid (WAt wr (w.heap.size + 1) (sumI l i)) ∧ Hid (Chg (fun k => k = w.heap.size + 1) W0 wr)) (fun j _ => n - (intOf j).toNat)
  case atStart => exact ⟨0, Nat.zero_le _, rfl, hT0.out, Chg.refl _ _⟩
  case round =>
    obtain ⟨i, hi, rfl, hwt, hch⟩ := hrel
    have hzr := hch.out.size
    by_cases hlt : i < n
    · obtain ⟨ba, oa, rfl, hba, hca⟩ := HA.out.at hlt
      have ea : wr.cell? ⟨ba, oa + i, none⟩ = some (.int .i64 (l[i]?.getD 0)) := (hch.out.cell (k := ba) (by omega) (by omega)).trans ((hb0.out.cell (p := ⟨ba, oa + i, none⟩) hba).trans hca)
      have HO := Lib.hid (fun w => Of_any (l[i]?.getD 0) w (IA.out i))
      have HD := Lib.hid (fun w => Add_any (sumI l i) (l[i]?.getD 0) w)
      have Hs : Hid (sumI l i + l[i]?.getD 0 = sumI l (i + 1)) := Lib.hid rfl
      rw [Hs.out] at HD
      have hi0 : (0 : Int) ≤ (i : Int) := by omega
      have hin : (i : Int) < (n : Int) := by omega
      clear hca
      generalize l[i]?.getD 0 = z at *
      unfold W at HO HD
      obtain ⟨u0, u1, uf⟩ := hwt.out
      go_wp2
      go_region_with (first
        | ((with_reducible refine (HO.out _).mono ?_); rintro e w5 ⟨rfl, hb5⟩; have z5 := hb5.size; (try simp at z5); have k5 := hwt.out.kept (w' := w5) (by (repeat first | assumption | exact Below.refl _ _ | refine Below.drew ?_ | refine Below.drewN ?_ _ | refine Below.alloc ?_ (by (first | omega | (simp; done) | (simp; omega))) _ | refine Below.setCell ?_ (by (first | omega | (simp; done) | (simp; omega))) _ | refine Below.trans ?_ (Below.mono (by assumption) (by (first | omega | (simp; done) | (simp; omega)))))); obtain ⟨_, _, f5⟩ := k5)
        | ((with_reducible refine (HD.out _).mono ?_); rintro e w6 ⟨rfl, hb6⟩; have z6 := hb6.size; (try simp at z6); have k6 := hwt.out.kept (w' := w6) (by (repeat first | assumption | exact Below.refl _ _ | refine Below.drew ?_ | refine Below.drewN ?_ _ | refine Below.alloc ?_ (by (first | omega | (simp; done) | (simp; omega))) _ | refine Below.setCell ?_ (by (first | omega | (simp; done) | (simp; omega))) _ | refine Below.trans ?_ (Below.mono (by assumption) (by (first | omega | (simp; done) | (simp; omega)))))); have k6' := k6; obtain ⟨_, _, f6⟩ := k6'))
      all_goals
        have HW7 := Lib.hid (k6.set (sumI l (i + 1)))
        have HC6 : Hid (Chg (fun k => k = w.heap.size + 1) W0 w6) := Lib.hid (by have := hch.out; (repeat first | assumption | exact Chg.refl _ _ | refine Chg.drew ?_ | refine Chg.drewN ?_ _ | refine Chg.alloc ?_ _ | refine Chg.setCell_in ?_ _ (by first | rfl | simp) _ | refine Chg.setCell ?_ _ (by (first | omega | (simp; done) | (simp; omega))) _ | refine Chg.then_below ?_ (by assumption) (by (first | omega | (simp; done) | (simp; omega)))))
        have HC7 := Lib.hid ((HC6.out.setCell_in ⟨w.heap.size + 1, 0, none⟩ (show w.heap.size + 1 = w.heap.size + 1 from rfl) (.int .i64 (whi (sumI l (i + 1))))).setCell_in ⟨w.heap.size + 1, 1, none⟩ (show w.heap.size + 1 = w.heap.size + 1 from rfl) (.int .u64 (wlo (sumI l (i + 1)))))
        clear hb5 hb6 k6 f5 f6 HO HD ea
        go_wp2
        go_roundw
        case rel => exact ⟨i + 1, by omega, by go_num, HW7.out, HC7.out⟩
        case measure => simp [intOf]; omega
    · obtain rfl : i = n := by omega
      obtain ⟨u0, u1, uf⟩ := hwt.out
      have hR := (hR0.out)
      have hRc0 := hR.c0
      have hRc1 := hR.c1
      rw [whi0] at hRc0
      rw [wlo0] at hRc1
      have r0 : wr.cell? ⟨w.heap.size, 0, none⟩ = some (.int .i64 0) := (hch.out.cell (k := w.heap.size) (by omega) (by omega)).trans hRc0
      have r1 : wr.cell? ⟨w.heap.size, 1, none⟩ = some (.int .u64 0) := (hch.out.cell (k := w.heap.size) (by omega) (by omega)).trans hRc1
      have rf : ∀ j, wr.frozen? ⟨w.heap.size, j, none⟩ = false := fun j => (hch.out.frozen (k := w.heap.size) (by omega) (by omega)).trans (hR.f j)
      have HRr : Hid (WAt ((wr.setCell ⟨w.heap.size, 0, none⟩ (.int .i64 (whi (sumI l i)))).setCell ⟨w.heap.size, 1, none⟩ (.int .u64 (wlo (sumI l i)))) w.heap.size (sumI l i)) := Lib.hid (WAt.set (v := 0) ⟨by rw [whi0]; exact r0, by rw [wlo0]; exact r1, rf⟩ _)
      have hbw : Hid (Below w.heap.size w wr) := Lib.hid (hb0.out.trans (hch.out.below (by omega) (by rintro k rfl; omega)))
      clear hR
      go_wp2
      obtain ⟨q0, q1, qf⟩ := HRr.out
      exact bodyPost_ret (v := .agg #[.int .i64 (whi (sumI l i)), .int .u64 (wlo (sumI l i))]) (by simp [results, Try.results178, go_sem, q0, q1]) rfl ⟨rfl, (hbw.out.setCell (Nat.le_refl _) _).setCell (Nat.le_refl _) _⟩
end Go.Proofs.Ytdamenbpgkhiiaa
