/-
  regattaref07: what lacks; losses, by definition.
-/
import Derived.Test.YtdamenbpgkhiiaaRefI
import Derived.Test.YtdamenbpgkhiiaaLawC
namespace Go.Proofs.Ytdamenbpgkhiiaa
open Go.RowKit
set_option linter.unusedVariables false
set_option linter.unusedSimpArgs false

/-- What lacks to the right side, by one; what is counted of it. -/
def prodF (y t : Int) : Int := clampI (rne (t * y) 4294967296)
def lackF (y t : Int) : Int := clampI (4294967296 - prodF y t)
def cntK (n y t : Int) : Int := upC (upC n (over (rne (t * y) 4294967296))) (over (4294967296 - prodF y t))

theorem ChgL.set12 {a w : World} {g : Nat} {p n : Int} (h : Chg (fun k => k = g) a w) : Chg (fun k => k = g) a (set12 w g p n) :=
  (((((((((((h.setCell_in ⟨g, 0, none⟩ (show g = g from rfl) _).setCell_in ⟨g, 1, none⟩ (show g = g from rfl) _).setCell_in ⟨g, 2, none⟩ (show g = g from rfl) _).setCell_in ⟨g, 3, none⟩ (show g = g from rfl) _).setCell_in ⟨g, 4, none⟩ (show g = g from rfl) _).setCell_in ⟨g, 5, none⟩ (show g = g from rfl) _).setCell_in ⟨g, 6, none⟩ (show g = g from rfl) _).setCell_in ⟨g, 7, none⟩ (show g = g from rfl) _).setCell_in ⟨g, 8, none⟩ (show g = g from rfl) _).setCell_in ⟨g, 9, none⟩ (show g = g from rfl) _).setCell_in ⟨g, 10, none⟩ (show g = g from rfl) _).setCell_in ⟨g, 11, none⟩ (show g = g from rfl) _
theorem UAtL.chg {S : Nat → Prop} {w w' : World} {b : Nat} {n : Int} (h : UAt w b n) (hc : Chg S w w') (hS : ¬ S b) : UAt w' b n :=
  ⟨(hc.cell h.lt hS).trans h.cell, (hc.frozen h.lt hS).trans h.frozen⟩

set_option maxHeartbeats 800000 in
set_option maxRecDepth 20000 in
theorem rLack_any (b : Nat) (n y t : Int) (w : World) (hy : I64 y) (ht : I64 t) (hu : UAt w b n) :
    Calls Try.prog 75 #[.pointer (some ⟨b, 0, none⟩), .int .i64 y, .int .i64 t] w fun e w' => e = .returned (.int .i64 (lackF y t)) ∧ Chg (fun k => k = b) w w' ∧ UAt w' b (cntK n y t) := by
  have HM := Lib.hid (fun w => bMul_any t y w ht hy)
  have HS := Lib.hid (fun w => bSub_any 4294967296 (prodF y t) w (by unfold I64; omega) (clampI_I64 _))
  have HT1 := Lib.hid (fun w h => rTake_any b n (prodF y t) (over (rne (t * y) 4294967296)) w h)
  have HT2 := Lib.hid (fun w h => rTake_any b (upC n (over (rne (t * y) 4294967296))) (lackF y t) (over (4294967296 - prodF y t)) w h)
  have HU := Lib.hid hu
  have Hc : Hid (cntK n y t = upC (upC n (over (rne (t * y) 4294967296))) (over (4294967296 - prodF y t))) := Lib.hid rfl
  rw [show clampI (rne (t * y) 4294967296) = prodF y t from rfl] at HM
  rw [show clampI (4294967296 - prodF y t) = lackF y t from rfl] at HS
  rw [Hc.out]
  clear hy ht hu Hc
  generalize over (4294967296 - prodF y t) = o2 at *
  generalize over (rne (t * y) 4294967296) = o1 at *
  generalize lackF y t = l at *
  generalize prodF y t = q at *
  go_enter Try.func75, Try.ntmps75
  go_wp2_with fail
  (with_reducible refine (HM.out _).mono ?_)
  rintro e w1 ⟨rfl, hb1⟩
  go_wp2_with fail
  (with_reducible refine (HT1.out _ (HU.out.kept hb1)).mono ?_)
  rintro e w2 ⟨rfl, hc2, hu2⟩
  go_wp2_with fail
  (with_reducible refine (HS.out _).mono ?_)
  rintro e w3 ⟨rfl, hb3⟩
  go_wp2_with fail
  (with_reducible refine (HT2.out _ (hu2.kept hb3)).mono ?_)
  rintro e w4 ⟨rfl, hc4, hu4⟩
  go_wp2
  go_ret
  exact ⟨rfl, (((Chg.of_below hb1).trans hc2).trans (Chg.of_below hb3)).trans hc4, hu4⟩

theorem I64_at {l : List Int} (h : A64 l) (i : Nat) : I64 (l[i]?.getD 0) := h i
theorem subs_at (a b : List Int) {i m : Nat} (h : i < m) : (subs a b m)[i]?.getD 0 = clampI (a[i]?.getD 0 - b[i]?.getD 0) := by
  simp [subs, List.getElem?_map, List.getElem?_range h]

set_option maxHeartbeats 3200000 in
set_option maxRecDepth 100000 in
theorem rLoss1_any (b : Nat) (n : Int) (m ca cb : Nat) (aa ab : Option Addr) (y t : List Int) (w : World)
    (ha : Rd w .i64 aa m y) (hb : Rd w .i64 ab m t) (hm : m ≤ 100000) (ia : A64 y) (ib : A64 t) (hu : UAt w b n) (oa : ∀ z, aa = some z → z.block ≠ b) (ob : ∀ z, ab = some z → z.block ≠ b) :
    Calls Try.prog 46 #[.pointer (some ⟨b, 0, none⟩), .int .i64 1, .slice aa m ca, .slice ab m cb] w fun e w' => e = .returned (.int .i64 (sqFar y t m)) ∧ Chg (fun k => k = b) w w' ∧ UAt w' b (upC (cntD n y t m) (over (rne (sqS (subs y t m) m) 8589934592))) := by
  have HA := Lib.hid ha; have HB := Lib.hid hb; have IA := Lib.hid ia; have IB := Lib.hid ib; have OA := Lib.hid oa; have OB := Lib.hid ob
  have HU := Lib.hid hu
  have hbl := hu.lt
  clear ha hb ia ib hu oa ob
  go_enter Try.func46, Try.ntmps46
  go_wp2
  have hS0 : Hid (SGAt (w.alloc (.cells #[.int .u64 0, .int .u64 0, .int .u64 0, .int .u64 0, .int .u64 0, .int .u64 0, .int .u64 0, .int .u64 0, .int .u64 0, .int .u64 0, .int .u64 0, .int .u64 0] 147)) w.heap.size 0 0) := Lib.hid (z12 w)
  have hb0 : Hid (Below w.heap.size w (w.alloc (.cells #[.int .u64 0, .int .u64 0, .int .u64 0, .int .u64 0, .int .u64 0, .int .u64 0, .int .u64 0, .int .u64 0, .int .u64 0, .int .u64 0, .int .u64 0, .int .u64 0] 147))) := Lib.hid (by (repeat first | assumption | exact Below.refl _ _ | refine Below.drew ?_ | refine Below.drewN ?_ _ | refine Below.alloc ?_ (by (first | omega | (simp; done) | (simp; omega))) _ | refine Below.setCell ?_ (by (first | omega | (simp; done) | (simp; omega))) _ | refine Below.trans ?_ (Below.mono (by assumption) (by (first | omega | (simp; done) | (simp; omega))))))
  have hz0 : (w.alloc (.cells #[.int .u64 0, .int .u64 0, .int .u64 0, .int .u64 0, .int .u64 0, .int .u64 0, .int .u64 0, .int .u64 0, .int .u64 0, .int .u64 0, .int .u64 0, .int .u64 0] 147)).heap.size = w.heap.size + 1 := by simp
  generalize hW : w.alloc (.cells #[.int .u64 0, .int .u64 0, .int .u64 0, .int .u64 0, .int .u64 0, .int .u64 0, .int .u64 0, .int .u64 0, .int .u64 0, .int .u64 0, .int .u64 0, .int .u64 0] 147) = W at *
  have hzW : w.heap.size < W.heap.size := by omega
  clear hW hz0
  have hne : w.heap.size ≠ b := by omega
  go_loopw [10] (fun j wr => ∃ (i : Nat) (p1 n1 : Int), i ≤ m ∧ j = .int .i64 i ∧ Hid (SGAt wr w.heap.size p1 n1) ∧ Hid (SP p1 n1 (sqS (subs y t m) i) (i * 85070591730234615865843651857942052864)) ∧ Hid (Chg (fun k => k = b ∨ k = w.heap.size) W wr) ∧ Hid (UAt wr b (cntD n y t i))) (fun j _ => m - (intOf j).toNat)
  case atStart => exact ⟨0, 0, 0, Nat.zero_le _, rfl, hS0.out, Lib.hid (by simpa [sqS] using SP.zero), Chg.refl _ _, Lib.hid (HU.out.kept hb0.out)⟩
  case round =>
    obtain ⟨i, p1, n1, hi, rfl, hsg, hsp, hch, hun⟩ := hrel
    have hzr := hch.out.size
    by_cases hlt : i < m
    · obtain ⟨ba, oa, rfl, hba, hca⟩ := HA.out.at hlt
      obtain ⟨bb, obb, rfl, hbb, hcb⟩ := HB.out.at hlt
      have hab := OA.out _ rfl
      have hbbb := OB.out _ rfl
      have ea : wr.cell? ⟨ba, oa + i, none⟩ = some (.int .i64 (y[i]?.getD 0)) := (hch.out.cell (k := ba) (by omega) (fun h => by rcases h with h | h <;> simp_all <;> omega)).trans ((hb0.out.cell (p := ⟨ba, oa + i, none⟩) hba).trans hca)
      have eb : wr.cell? ⟨bb, obb + i, none⟩ = some (.int .i64 (t[i]?.getD 0)) := (hch.out.cell (k := bb) (by omega) (fun h => by rcases h with h | h <;> simp_all <;> omega)).trans ((hb0.out.cell (p := ⟨bb, obb + i, none⟩) hbb).trans hcb)
      have HS := Lib.hid (fun w => bSub_any (y[i]?.getD 0) (t[i]?.getD 0) w (IA.out i) (IB.out i))
      have HT := Lib.hid (fun w h => rTake_any b (cntD n y t i) (clampI (y[i]?.getD 0 - t[i]?.getD 0)) (over (y[i]?.getD 0 - t[i]?.getD 0)) w h)
      have HM := Lib.hid (fun w => bMul_sp p1 n1 (clampI (y[i]?.getD 0 - t[i]?.getD 0)) (clampI (y[i]?.getD 0 - t[i]?.getD 0)) _ _ w hsp.out (clampI_I64 _) (clampI_I64 _))
      have Hd : Hid (sqS (subs y t m) i + clampI (y[i]?.getD 0 - t[i]?.getD 0) * clampI (y[i]?.getD 0 - t[i]?.getD 0) = sqS (subs y t m) (i + 1)) := Lib.hid (by simp only [sqS]; rw [subs_at y t hlt])
      have Hcd : Hid (cntD n y t (i + 1) = upC (cntD n y t i) (over (y[i]?.getD 0 - t[i]?.getD 0))) := Lib.hid rfl
      rw [Hd.out] at HM
      have hi0 : (0 : Int) ≤ (i : Int) := by omega
      have him : (i : Int) < (m : Int) := by omega
      clear hca hcb
      generalize clampI (y[i]?.getD 0 - t[i]?.getD 0) = d at *
      generalize over (y[i]?.getD 0 - t[i]?.getD 0) = od at *
      generalize y[i]?.getD 0 = ya at *
      generalize t[i]?.getD 0 = tb at *
      unfold SG SGc at HM
      go_wp2
      go_region_held3 (fun w' => w'.cell? ⟨ba, oa + i, none⟩ = some (.int .i64 ya) ∧ w'.cell? ⟨bb, obb + i, none⟩ = some (.int .i64 tb))
        (first | assumption | go_keep)
        (first
          | (go_at_call 74; refine (HS.out _).mono ?_; rintro e w5 ⟨rfl, hb5⟩; have z5 := hb5.size; (try simp at z5); have s5 : w5.cell? ⟨ba, oa + i, none⟩ = some (.int .i64 ya) ∧ w5.cell? ⟨bb, obb + i, none⟩ = some (.int .i64 tb) := ⟨(hb5.cell (p := ⟨ba, oa + i, none⟩) (by simp; omega)).trans (by go_simp), (hb5.cell (p := ⟨bb, obb + i, none⟩) (by simp; omega)).trans (by go_simp)⟩))
      all_goals
        have HC5 : Hid (Below wr.heap.size wr w5) := Lib.hid (by (repeat first | assumption | exact Below.refl _ _ | refine Below.drew ?_ | refine Below.drewN ?_ _ | refine Below.alloc ?_ (by (first | omega | (simp; done) | (simp; omega))) _ | refine Below.setCell ?_ (by (first | omega | (simp; done) | (simp; omega))) _ | refine Below.trans ?_ (Below.mono (by assumption) (by (first | omega | (simp; done) | (simp; omega))))))
        have Hu5 := Lib.hid (hun.out.kept HC5.out)
        clear hb5 s5
        go_wp2_with fail
        (with_reducible refine (HT.out _ Hu5.out).mono ?_)
        rintro e w6 ⟨rfl, hc6, hu6⟩
        have z6 := hc6.size
        have k6 : SGAt w6 w.heap.size p1 n1 := by
          have h7 := hsg.out.kept HC5.out
          exact ⟨(hc6.cell h7.lt hne).trans h7.c0, (hc6.cell h7.lt hne).trans h7.c1, (hc6.cell h7.lt hne).trans h7.c2, (hc6.cell h7.lt hne).trans h7.c3, (hc6.cell h7.lt hne).trans h7.c4, (hc6.cell h7.lt hne).trans h7.c5, (hc6.cell h7.lt hne).trans h7.c6, (hc6.cell h7.lt hne).trans h7.c7, (hc6.cell h7.lt hne).trans h7.c8, (hc6.cell h7.lt hne).trans h7.c9, (hc6.cell h7.lt hne).trans h7.c10, (hc6.cell h7.lt hne).trans h7.c11, fun i => (hc6.frozen h7.lt hne).trans (h7.f i)⟩
        have K6 := Lib.hid k6
        have hzw6 : w.heap.size < w6.heap.size := by omega
        obtain ⟨c0, c1, c2, c3, c4, c5, c6, c7, c8, c9, c10, c11, f6⟩ := k6
        go_wp2_with fail
        (with_reducible refine (HM.out _).mono ?_)
        rintro e w7 ⟨p2, n2, rfl, hsp2, hb7⟩
        have z7 := hb7.size
        have HS8 : Hid (SGAt (set12 w7 w.heap.size p2 n2) w.heap.size p2 n2) := Lib.hid ((K6.out.kept hb7).set p2 n2)
        have HCx : Hid (Chg (fun k => k = b ∨ k = w.heap.size) W w7) := Lib.hid (((hch.out.trans (Chg.of_below HC5.out)).trans (hc6.mono (fun k hk => Or.inl hk))).trans (Chg.of_below hb7))
        have HC8 : Hid (Chg (fun k => k = b ∨ k = w.heap.size) W (set12 w7 w.heap.size p2 n2)) := Lib.hid ((((((((((((HCx.out.setCell_in ⟨w.heap.size, 0, none⟩ (Or.inr rfl) _).setCell_in ⟨w.heap.size, 1, none⟩ (Or.inr rfl) _).setCell_in ⟨w.heap.size, 2, none⟩ (Or.inr rfl) _).setCell_in ⟨w.heap.size, 3, none⟩ (Or.inr rfl) _).setCell_in ⟨w.heap.size, 4, none⟩ (Or.inr rfl) _).setCell_in ⟨w.heap.size, 5, none⟩ (Or.inr rfl) _).setCell_in ⟨w.heap.size, 6, none⟩ (Or.inr rfl) _).setCell_in ⟨w.heap.size, 7, none⟩ (Or.inr rfl) _).setCell_in ⟨w.heap.size, 8, none⟩ (Or.inr rfl) _).setCell_in ⟨w.heap.size, 9, none⟩ (Or.inr rfl) _).setCell_in ⟨w.heap.size, 10, none⟩ (Or.inr rfl) _).setCell_in ⟨w.heap.size, 11, none⟩ (Or.inr rfl) _)
        have HU8 : Hid (UAt (set12 w7 w.heap.size p2 n2) b (cntD n y t (i + 1))) := Lib.hid (by
          have h9 : UAt w7 b (cntD n y t (i + 1)) := by rw [Hcd.out]; exact hu6.kept hb7
          have h10 : Chg (fun k => k = w.heap.size) w7 (set12 w7 w.heap.size p2 n2) := ChgL.set12 (Chg.refl _ _)
          exact UAtL.chg h9 h10 (fun h => hne h.symm))
        have HP8 := Lib.hid hsp2
        have k7 := K6.out.kept hb7
        clear c0 c1 c2 c3 c4 c5 c6 c7 c8 c9 c10 c11 f6 hb7 hc6 hu6 hsp2 HCx HM HS HT ea eb
        obtain ⟨c0, c1, c2, c3, c4, c5, c6, c7, c8, c9, c10, c11, f7⟩ := k7
        unfold set12 at HS8 HC8 HU8
        unfold set6N set6 at HS8 HC8 HU8
        go_wp2
        go_roundw
        case rel => exact ⟨i + 1, p2, n2, by omega, by go_num, HS8.out, Lib.hid (by have h9 := HP8.out; unfold SP at h9 ⊢; omega), HC8.out, HU8.out⟩
        case measure => simp [intOf]; omega
    · obtain rfl : m = i := by omega
      have HR := Lib.hid (fun w => bRound33_sp p1 n1 _ _ w hsp.out (by omega))
      have HT := Lib.hid (fun w h => rTake_any b (cntD n y t m) (sqFar y t m) (over (rne (sqS (subs y t m) m) 8589934592)) w h)
      rw [show clampI (rne (sqS (subs y t m) m) 8589934592) = sqFar y t m from rfl] at HR
      obtain ⟨c0, c1, c2, c3, c4, c5, c6, c7, c8, c9, c10, c11, f6⟩ := hsg.out
      unfold SG SGc at HR
      go_wp2_with fail
      (with_reducible refine (HR.out _).mono ?_)
      rintro e w6 ⟨rfl, hb6⟩
      go_wp2_with fail
      (with_reducible refine (HT.out _ (hun.out.kept hb6)).mono ?_)
      rintro e w7 ⟨rfl, hc7, hu7⟩
      go_wp2
      go_ret
      exact ⟨rfl, (Chg.drop (S := fun k => k = b) (Chg.of_below hb0.out) hch.out (fun i hi => by rcases hi with h | h; exact Or.inl h; right; omega)).trans ((Chg.of_below hb6).trans hc7), hu7⟩
end Go.Proofs.Ytdamenbpgkhiiaa
