/-
  regattaref07: the hinge's loss, by definition.
-/
import Derived.Test.YtdamenbpgkhiiaaRefL
namespace Go.Proofs.Ytdamenbpgkhiiaa
open Go.RowKit
set_option linter.unusedVariables false
set_option linter.unusedSimpArgs false

/-- What lacks, above 0, of the first k parts; what is counted. -/
def hgS (y t : List Int) : Nat → Int
  | 0 => 0
  | k + 1 => hgS y t k + relu1 (lackF (y[k]?.getD 0) (t[k]?.getD 0))
def cntH (n : Int) (y t : List Int) : Nat → Int
  | 0 => n
  | k + 1 => cntK (cntH n y t k) (y[k]?.getD 0) (t[k]?.getD 0)

set_option maxHeartbeats 3200000 in
set_option maxRecDepth 100000 in
theorem rLoss2_any (b : Nat) (n : Int) (m ca cb : Nat) (aa ab : Option Addr) (y t : List Int) (w : World)
    (ha : Rd w .i64 aa m y) (hb : Rd w .i64 ab m t) (hm : m ≤ 100000) (ia : A64 y) (ib : A64 t) (hu : UAt w b n) (oa : ∀ z, aa = some z → z.block ≠ b) (ob : ∀ z, ab = some z → z.block ≠ b) :
    Calls Try.prog 46 #[.pointer (some ⟨b, 0, none⟩), .int .i64 2, .slice aa m ca, .slice ab m cb] w fun e w' => e = .returned (.int .i64 (clampI (hgS y t m))) ∧ Chg (fun k => k = b) w w' ∧ UAt w' b (upC (cntH n y t m) (over (hgS y t m))) := by
  have HA := Lib.hid ha; have HB := Lib.hid hb; have IA := Lib.hid ia; have IB := Lib.hid ib; have OA := Lib.hid oa; have OB := Lib.hid ob
  have HU := Lib.hid hu
  have hbl := hu.lt
  clear ha hb ia ib hu oa ob
  go_enter Try.func46, Try.ntmps46
  go_wp2
  have hS0 : Hid (SGAt (w.alloc (.cells #[.int .u64 0, .int .u64 0, .int .u64 0, .int .u64 0, .int .u64 0, .int .u64 0, .int .u64 0, .int .u64 0, .int .u64 0, .int .u64 0, .int .u64 0, .int .u64 0] 147)) w.heap.size 0 0) := Lib.hid (z12 w)
  have hb0 : Hid (Below w.heap.size w (w.alloc (.cells #[.int .u64 0, .int .u64 0, .int .u64 0, .int .u64 0, .int .u64 0, .int .u64 0, .int .u64 0, .int .u64 0, .int .u64 0, .int .u64 0, .int .u64 0, .int .u64 0] 147))) := Lib.hid (by (repeat first | assumption | exact Below.refl _ _ | refine Below.drew ?_ | refine Below.drewN ?_ _ | refine Below.alloc ?_ (by (first | omega | (simp; done) | (simp; omega))) _ | refine Below.setCell ?_ (by (first | omega | (simp; done) | (simp; omega))) _ | refine Below.trans ?_ (Below.mono (by assumption) (by (first | omega | (simp; done) | (simp; omega))))))
  have hz0 : (w.alloc (.cells #[.int .u64 0, .int .u64 0, .int .u64 0, .int .u64 0, .int .u64 0, .int .u64 0, .int .u64 0, .int .u64 0, .int .u64 0, .int .u64 0, .int .u64 0, .int .u64 0] 147)).heap.size = w.heap.size + 1 := by simp
  generalize hW : w.alloc (.cells #[.int .u64 0, .int .u64 0, .int .u64 0, .int .u64 0, .int .u64 0, .int .u64 0, .int .u64 0, .int .u64 0, .int .u64 0, .int .u64 0, .int .u64 0, .int .u64 0] 147) = W at *
  have hzW : w.heap.size < W.heap.size := by omega
  clear hW hz0
  have hne : w.heap.size ≠ b := by omega
  go_loopw [10] (fun j wr => ∃ (i : Nat) (p1 n1 : Int), i ≤ m ∧ j = .int .i64 i ∧ Hid (SGAt wr w.heap.size p1 n1) ∧ Hid (SP p1 n1 (hgS y t i) (i * 39614081257132168796771975168)) ∧ Hid (Chg (fun k => k = b ∨ k = w.heap.size) W wr) ∧ Hid (UAt wr b (cntH n y t i))) (fun j _ => m - (intOf j).toNat)
  case atStart => exact ⟨0, 0, 0, Nat.zero_le _, rfl, hS0.out, Lib.hid (by simpa [hgS] using SP.zero), Chg.refl _ _, Lib.hid (HU.out.kept hb0.out)⟩
  case round =>
    obtain ⟨i, p1, n1, hi, rfl, hsg, hsp, hch, hun⟩ := hrel
    have hzr := hch.out.size
    by_cases hlt : i < m
    · obtain ⟨ba, oa, rfl, hba, hca⟩ := HA.out.at hlt
      obtain ⟨bb, obb, rfl, hbb, hcb⟩ := HB.out.at hlt
      have hab := OA.out _ rfl
      have hbbb := OB.out _ rfl
      have ea : wr.cell? ⟨ba, oa + i, none⟩ = some (.int .i64 (y[i]?.getD 0)) := (hch.out.cell (k := ba) (by omega) (fun h => by rcases h with h | h <;> simp_all <;> omega)).trans ((hb0.out.cell (p := ⟨ba, oa + i, none⟩) hba).trans hca)
      have eb : wr.cell? ⟨bb, obb + i, none⟩ = some (.int .i64 (t[i]?.getD 0)) := (hch.out.cell (k := bb) (by omega) (fun h => by rcases h with h | h <;> simp_all <;> omega)).trans ((hb0.out.cell (p := ⟨bb, obb + i, none⟩) hbb).trans hcb)
      have HS := Lib.hid (fun w h => rLack_any b (cntH n y t i) (y[i]?.getD 0) (t[i]?.getD 0) w (IA.out i) (IB.out i) h)
      have Hd : Hid (hgS y t (i + 1) = hgS y t i + relu1 (lackF (y[i]?.getD 0) (t[i]?.getD 0))) := Lib.hid rfl
      have Hcd : Hid (cntH n y t (i + 1) = cntK (cntH n y t i) (y[i]?.getD 0) (t[i]?.getD 0)) := Lib.hid rfl
      have HM := Lib.hid (fun w => bAdd0_sp p1 n1 (lackF (y[i]?.getD 0) (t[i]?.getD 0)) _ _ w hsp.out (clampI_I64 _))
      have hi0 : (0 : Int) ≤ (i : Int) := by omega
      have him : (i : Int) < (m : Int) := by omega
      clear hca hcb
      generalize cntK (cntH n y t i) (y[i]?.getD 0) (t[i]?.getD 0) = cn at *
      generalize lackF (y[i]?.getD 0) (t[i]?.getD 0) = d at *
      generalize y[i]?.getD 0 = ya at *
      generalize t[i]?.getD 0 = tb at *
      unfold SG SGc at HM
      go_wp2
      go_region_held3 (fun w' => w'.cell? ⟨ba, oa + i, none⟩ = some (.int .i64 ya) ∧ w'.cell? ⟨bb, obb + i, none⟩ = some (.int .i64 tb))
        (first | assumption | go_keep)
        (first
          | (go_at_call 75; refine (HS.out _ (hun.out.kept (by (repeat first | assumption | exact Below.refl _ _ | refine Below.drew ?_ | refine Below.drewN ?_ _ | refine Below.alloc ?_ (by (first | omega | (simp; done) | (simp; omega))) _ | refine Below.setCell ?_ (by (first | omega | (simp; done) | (simp; omega))) _ | refine Below.trans ?_ (Below.mono (by assumption) (by (first | omega | (simp; done) | (simp; omega)))))))).mono ?_; rintro e w5 ⟨rfl, hc5, hu5⟩; have z5 := hc5.size; (try simp at z5); have s5 : w5.cell? ⟨ba, oa + i, none⟩ = some (.int .i64 ya) ∧ w5.cell? ⟨bb, obb + i, none⟩ = some (.int .i64 tb) := ⟨(hc5.cell (by simp; omega) hab).trans (by go_simp), (hc5.cell (by simp; omega) hbbb).trans (by go_simp)⟩))
      all_goals
        have HC5 : Hid (Chg (fun k => k = b) wr w5) := Lib.hid (Chg.trans (Chg.of_below (by (repeat first | assumption | exact Below.refl _ _ | refine Below.drew ?_ | refine Below.drewN ?_ _ | refine Below.alloc ?_ (by (first | omega | (simp; done) | (simp; omega))) _ | refine Below.setCell ?_ (by (first | omega | (simp; done) | (simp; omega))) _ | refine Below.trans ?_ (Below.mono (by assumption) (by (first | omega | (simp; done) | (simp; omega))))))) hc5)
        have K5 : Hid (SGAt w5 w.heap.size p1 n1) := Lib.hid (by
          have h7 := hsg.out
          have hc5 := HC5.out
          exact ⟨(hc5.cell h7.lt hne).trans h7.c0, (hc5.cell h7.lt hne).trans h7.c1, (hc5.cell h7.lt hne).trans h7.c2, (hc5.cell h7.lt hne).trans h7.c3, (hc5.cell h7.lt hne).trans h7.c4, (hc5.cell h7.lt hne).trans h7.c5, (hc5.cell h7.lt hne).trans h7.c6, (hc5.cell h7.lt hne).trans h7.c7, (hc5.cell h7.lt hne).trans h7.c8, (hc5.cell h7.lt hne).trans h7.c9, (hc5.cell h7.lt hne).trans h7.c10, (hc5.cell h7.lt hne).trans h7.c11, fun i => (hc5.frozen h7.lt hne).trans (h7.f i)⟩)
        have Hu5 : Hid (UAt w5 b (cntH n y t (i + 1))) := Lib.hid (by rw [Hcd.out]; exact hu5)
        have HCx : Hid (Chg (fun k => k = b ∨ k = w.heap.size) W w5) := Lib.hid (hch.out.trans (HC5.out.mono (fun k hk => Or.inl hk)))
        have hzw5 : w.heap.size < w5.heap.size := by have := HC5.out.size; omega
        clear hc5 hu5 s5 HS ea eb
        by_cases hpos : 0 < d
        · have hposd : decide (d > 0) = true := by simpa using hpos
          have hrl : relu1 d = d := by unfold relu1; rw [if_neg (by omega)]
          rw [hrl] at Hd
          rw [← Hd.out] at HM
          obtain ⟨c0, c1, c2, c3, c4, c5, c6, c7, c8, c9, c10, c11, f5⟩ := K5.out
          go_wp2_with fail
          (with_reducible refine (HM.out _).mono ?_)
          rintro e w7 ⟨p2, n2, rfl, hsp2, hb7⟩
          have z7 := hb7.size
          have HS8 : Hid (SGAt (set12 w7 w.heap.size p2 n2) w.heap.size p2 n2) := Lib.hid ((K5.out.kept hb7).set p2 n2)
          have HC8 : Hid (Chg (fun k => k = b ∨ k = w.heap.size) W (set12 w7 w.heap.size p2 n2)) := Lib.hid ((HCx.out.trans (Chg.of_below hb7)).trans ((ChgL.set12 (Chg.refl _ _)).mono (fun k hk => Or.inr hk)))
          have HU8 : Hid (UAt (set12 w7 w.heap.size p2 n2) b (cntH n y t (i + 1))) := Lib.hid (UAtL.chg (Hu5.out.kept hb7) (ChgL.set12 (Chg.refl _ _)) (fun h => hne h.symm))
          have HP8 := Lib.hid hsp2
          have k7 := K5.out.kept hb7
          clear c0 c1 c2 c3 c4 c5 c6 c7 c8 c9 c10 c11 f5 hb7 hsp2 HCx HM
          obtain ⟨c0, c1, c2, c3, c4, c5, c6, c7, c8, c9, c10, c11, f7⟩ := k7
          unfold set12 at HS8 HC8 HU8
          unfold set6N set6 at HS8 HC8 HU8
          go_wp2
          go_roundw
          case rel => exact ⟨i + 1, p2, n2, by omega, by go_num, HS8.out, Lib.hid (by have h9 := HP8.out; unfold SP at h9 ⊢; omega), HC8.out, HU8.out⟩
          case measure => simp [intOf]; omega
        · have hposd : decide (d > 0) = false := by simpa using hpos
          have hrl : relu1 d = 0 := by unfold relu1; split <;> omega
          rw [hrl, Int.add_zero] at Hd
          go_wp2
          go_roundw
          case rel => exact ⟨i + 1, p1, n1, by omega, by go_num, K5.out, Lib.hid (by rw [Hd.out]; have h9 := hsp.out; unfold SP at h9 ⊢; omega), HCx.out, Hu5.out⟩
          case measure => simp [intOf]; omega
    · obtain rfl : m = i := by omega
      have HR := Lib.hid (fun w => bRound0_sp p1 n1 _ _ w hsp.out (by omega))
      have HT := Lib.hid (fun w h => rTake_any b (cntH n y t m) (clampI (hgS y t m)) (over (hgS y t m)) w h)
      obtain ⟨c0, c1, c2, c3, c4, c5, c6, c7, c8, c9, c10, c11, f6⟩ := hsg.out
      unfold SG SGc at HR
      go_wp2_with fail
      (with_reducible refine (HR.out _).mono ?_)
      rintro e w6 ⟨rfl, hb6⟩
      go_wp2_with fail
      (with_reducible refine (HT.out _ (hun.out.kept hb6)).mono ?_)
      rintro e w7 ⟨rfl, hc7, hu7⟩
      go_wp2
      go_ret
      exact ⟨rfl, (Chg.drop (S := fun k => k = b) (Chg.of_below hb0.out) hch.out (fun i hi => by rcases hi with h | h; exact Or.inl h; right; omega)).trans ((Chg.of_below hb6).trans hc7), hu7⟩
end Go.Proofs.Ytdamenbpgkhiiaa
