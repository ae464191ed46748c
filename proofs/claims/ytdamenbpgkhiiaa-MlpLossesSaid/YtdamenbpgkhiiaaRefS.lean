/-
  regattaref07: slopes, by definition.
-/
import Derived.Test.YtdamenbpgkhiiaaRefM
import Derived.Test.YtdamenbpgkhiiaaLawD
namespace Go.Proofs.Ytdamenbpgkhiiaa
open Go.RowKit
set_option linter.unusedVariables false
set_option linter.unusedSimpArgs false

theorem UAtL.grown {w w' : World} {b : Nat} {n : Int} {B : Nat} {v : Value} {E : TypeId} {size m : Nat} {xs : List Value} (h : UAt w b n) (hown : w.ownsRow B E size v m xs) (hg : w.grownBy w' v.ownBlock) (hB : b < B) : UAt w' b n :=
  Un.grown (u := some b) (fun b' e => by cases e; exact h) hown hg (fun k hk => by cases hk; exact hB) b rfl

/-- A hinge's slope at a part, of the first k parts; what is counted. -/
def slF (y t : Int) : Int := if 0 < lackF y t then clampI (0 - t) else 0
def slC (n y t : Int) : Int := if 0 < lackF y t then upC n (over (0 - t)) else n
def slS (y t : List Int) (k : Nat) : List Int := (List.range k).map fun i => slF (y[i]?.getD 0) (t[i]?.getD 0)
theorem slS_succ (y t : List Int) (k : Nat) : slS y t (k + 1) = slS y t k ++ [slF (y[k]?.getD 0) (t[k]?.getD 0)] := by simp [slS, List.range_succ]
def cntI (n : Int) (y t : List Int) : Nat → Int
  | 0 => n
  | k + 1 => slC (cntK (cntI n y t k) (y[k]?.getD 0) (t[k]?.getD 0)) (y[k]?.getD 0) (t[k]?.getD 0)
/-- Slopes counted behind all that lacks. -/
def cntG (n : Int) (y t : List Int) : Nat → Int
  | 0 => n
  | k + 1 => slC (cntG n y t k) (y[k]?.getD 0) (t[k]?.getD 0)
theorem upC_comm (n : Int) (a b : Bool) : upC (upC n a) b = upC (upC n b) a := by cases a <;> cases b <;> rfl
theorem cntG_up (n : Int) (y t : List Int) (o : Bool) : ∀ k, cntG (upC n o) y t k = upC (cntG n y t k) o
  | 0 => rfl
  | k + 1 => by
    simp only [cntG]
    rw [cntG_up n y t o k]
    unfold slC
    split
    · exact upC_comm _ _ _
    · rfl
theorem cntI_eq (n : Int) (y t : List Int) : ∀ k, cntI n y t k = cntG (cntH n y t k) y t k
  | 0 => rfl
  | k + 1 => by
    simp only [cntI, cntG, cntH]
    rw [cntI_eq n y t k]
    unfold cntK
    rw [cntG_up, cntG_up]

set_option maxHeartbeats 3200000 in
set_option maxRecDepth 100000 in
theorem rSlope1_any (b : Nat) (n : Int) (m ca cb : Nat) (aa ab : Option Addr) (y t : List Int) (w : World)
    (ha : Rd w .i64 aa m y) (hb : Rd w .i64 ab m t) (hm : m ≤ 100000) (ia : A64 y) (ib : A64 t) (hu : UAt w b n) (oa : ∀ z, aa = some z → z.block ≠ b) (ob : ∀ z, ab = some z → z.block ≠ b) :
    Calls Try.prog 47 #[.pointer (some ⟨b, 0, none⟩), .int .i64 1, .slice aa m ca, .slice ab m cb] w fun e w' => ∃ v, e = .returned v ∧ Ow w' w.heap.size 2 .i64 v (subs y t m) ∧ Chg (fun k => k = b) w w' ∧ UAt w' b (cntD n y t m) := by
  have HA := Lib.hid ha; have HB := Lib.hid hb; have IA := Lib.hid ia; have IB := Lib.hid ib; have OA := Lib.hid oa; have OB := Lib.hid ob
  have HU := Lib.hid hu
  have hbl := hu.lt
  clear ha hb ia ib hu oa ob
  go_enter Try.func47, Try.ntmps47
  go_wp2
  go_loopw [9, 10] (fun lv j wr => ∃ (i : Nat), i ≤ m ∧ j = .int .i64 i ∧ Hid (wr.ownsRow w.heap.size 2 1 lv i ((subs y t i).map (Value.int .i64))) ∧ Hid (Chg (fun k => k = b) w wr) ∧ Hid (UAt wr b (cntD n y t i))) (fun _ j _ => m - (intOf j).toNat)
  case atStart => exact ⟨0, Nat.zero_le _, rfl, Lib.hid (by simpa [subs] using World.ownsRow_nil _ _ _ _), Chg.refl _ _, HU.out⟩
  case round =>
    obtain ⟨i, hi, rfl, hown, hch, hun⟩ := hrel
    have hzr := hch.out.size
    by_cases hlt : i < m
    · obtain ⟨ba, oa, rfl, hba, hca⟩ := HA.out.at hlt
      obtain ⟨bb, obb, rfl, hbb, hcb⟩ := HB.out.at hlt
      have hab := OA.out _ rfl
      have hbbb := OB.out _ rfl
      have ea : wr.cell? ⟨ba, oa + i, none⟩ = some (.int .i64 (y[i]?.getD 0)) := (hch.out.cell hba hab).trans hca
      have eb : wr.cell? ⟨bb, obb + i, none⟩ = some (.int .i64 (t[i]?.getD 0)) := (hch.out.cell hbb hbbb).trans hcb
      have Hsu := Lib.hid (subs_succ y t i)
      have hi0 : (0 : Int) ≤ (i : Int) := by omega
      have him : (i : Int) < (m : Int) := by omega
      clear hca hcb
      have HS := Lib.hid (fun w => bSub_any (y[i]?.getD 0) (t[i]?.getD 0) w (IA.out i) (IB.out i))
      have HT := Lib.hid (fun w h => rTake_any b (cntD n y t i) (clampI (y[i]?.getD 0 - t[i]?.getD 0)) (over (y[i]?.getD 0 - t[i]?.getD 0)) w h)
      have Hcd : Hid (cntD n y t (i + 1) = upC (cntD n y t i) (over (y[i]?.getD 0 - t[i]?.getD 0))) := Lib.hid rfl
      generalize clampI (y[i]?.getD 0 - t[i]?.getD 0) = d at *
      generalize over (y[i]?.getD 0 - t[i]?.getD 0) = od at *
      generalize y[i]?.getD 0 = ya at *
      generalize t[i]?.getD 0 = tb at *
      go_wp2
      go_region_held3 (fun w' => w'.cell? ⟨ba, oa + i, none⟩ = some (.int .i64 ya) ∧ w'.cell? ⟨bb, obb + i, none⟩ = some (.int .i64 tb))
        (first | assumption | go_keep)
        (first
          | (go_at_call 74; refine (HS.out _).mono ?_; rintro e w5 ⟨rfl, hb5⟩; have z5 := hb5.size; (try simp at z5); have s5 : w5.cell? ⟨ba, oa + i, none⟩ = some (.int .i64 ya) ∧ w5.cell? ⟨bb, obb + i, none⟩ = some (.int .i64 tb) := ⟨(hb5.cell (p := ⟨ba, oa + i, none⟩) (by simp; omega)).trans (by go_simp), (hb5.cell (p := ⟨bb, obb + i, none⟩) (by simp; omega)).trans (by go_simp)⟩))
      all_goals
        have HC5 : Hid (Below wr.heap.size wr w5) := Lib.hid (by (repeat first | assumption | exact Below.refl _ _ | refine Below.drew ?_ | refine Below.drewN ?_ _ | refine Below.alloc ?_ (by (first | omega | (simp; done) | (simp; omega))) _ | refine Below.setCell ?_ (by (first | omega | (simp; done) | (simp; omega))) _ | refine Below.trans ?_ (Below.mono (by assumption) (by (first | omega | (simp; done) | (simp; omega))))))
        have Hu5 := Lib.hid (hun.out.kept HC5.out)
        clear hb5 s5 HS
        go_wp2_with fail
        (with_reducible refine (HT.out _ Hu5.out).mono ?_)
        rintro e w6 ⟨rfl, hc6, hu6⟩
        have z6 := hc6.size
        have Hown6 := Lib.hid (ownsRow_chg (ownsRow_kept hown.out HC5.out) hc6 (by rintro k rfl; omega))
        have HC6 : Hid (Chg (fun k => k = b) w w6) := Lib.hid ((hch.out.trans (Chg.of_below HC5.out)).trans hc6)
        have Hu6 := Lib.hid hu6
        clear hc6 hu6
        go_wp2_with (at_builtin; refine wpl_app1 eIs rfl _ _ rfl w.heap.size _ i _ rfl (Hown6.out.alloc _) w6.heap.size (.int .i64 d) rfl (World.cell?_alloc_at _ _ _ _ rfl) rfl ?c3 ?c4 ?c5 ?_)
        case c3 => unfold maxLen; omega
        case c4 => omega
        case c5 => first | omega | (simp; omega)
        intro v9 w9 hown9 hg9
        have Hch9 := Lib.hid (Chg.grownOf (HC6.out.alloc _) (Hown6.out.alloc _) hg9 (Nat.le_refl _))
        have Hu9 := Lib.hid (UAtL.grown (Hu6.out.kept ((Below.refl _ _).alloc (Nat.le_refl _) _)) (Hown6.out.alloc _) hg9 (by omega))
        have Hown9 := Lib.hid hown9
        clear hown9 hg9
        go_wp2
        go_roundw
        case rel => exact ⟨i + 1, by omega, by go_num, Lib.hid (by rw [Hsu.out]; simpa using Hown9.out), Hch9.out, Lib.hid (by rw [Hcd.out]; exact Hu9.out)⟩
        case measure => simp [intOf]; omega
    · obtain rfl : m = i := by omega
      go_wp2
      go_ret
      exact ⟨_, rfl, Ow.of hown.out, hch.out, hun.out⟩

set_option maxHeartbeats 3200000 in
set_option maxRecDepth 100000 in
theorem rSlope2_any (b : Nat) (n : Int) (m ca cb : Nat) (aa ab : Option Addr) (y t : List Int) (w : World)
    (ha : Rd w .i64 aa m y) (hb : Rd w .i64 ab m t) (hm : m ≤ 100000) (ia : A64 y) (ib : A64 t) (hu : UAt w b n) (oa : ∀ z, aa = some z → z.block ≠ b) (ob : ∀ z, ab = some z → z.block ≠ b) :
    Calls Try.prog 47 #[.pointer (some ⟨b, 0, none⟩), .int .i64 2, .slice aa m ca, .slice ab m cb] w fun e w' => ∃ v, e = .returned v ∧ Ow w' w.heap.size 2 .i64 v (slS y t m) ∧ Chg (fun k => k = b) w w' ∧ UAt w' b (cntI n y t m) := by
  have HA := Lib.hid ha; have HB := Lib.hid hb; have IA := Lib.hid ia; have IB := Lib.hid ib; have OA := Lib.hid oa; have OB := Lib.hid ob
  have HU := Lib.hid hu
  have hbl := hu.lt
  clear ha hb ia ib hu oa ob
  go_enter Try.func47, Try.ntmps47
  go_wp2
  go_loopw [9, 10] (fun lv j wr => ∃ (i : Nat), i ≤ m ∧ j = .int .i64 i ∧ Hid (wr.ownsRow w.heap.size 2 1 lv i ((slS y t i).map (Value.int .i64))) ∧ Hid (Chg (fun k => k = b) w wr) ∧ Hid (UAt wr b (cntI n y t i))) (fun _ j _ => m - (intOf j).toNat)
  case atStart => exact ⟨0, Nat.zero_le _, rfl, Lib.hid (by simpa [slS] using World.ownsRow_nil _ _ _ _), Chg.refl _ _, HU.out⟩
  case round =>
    obtain ⟨i, hi, rfl, hown, hch, hun⟩ := hrel
    have hzr := hch.out.size
    by_cases hlt : i < m
    · obtain ⟨ba, oa, rfl, hba, hca⟩ := HA.out.at hlt
      obtain ⟨bb, obb, rfl, hbb, hcb⟩ := HB.out.at hlt
      have hab := OA.out _ rfl
      have hbbb := OB.out _ rfl
      have ea : wr.cell? ⟨ba, oa + i, none⟩ = some (.int .i64 (y[i]?.getD 0)) := (hch.out.cell hba hab).trans hca
      have eb : wr.cell? ⟨bb, obb + i, none⟩ = some (.int .i64 (t[i]?.getD 0)) := (hch.out.cell hbb hbbb).trans hcb
      have Hsu := Lib.hid (slS_succ y t i)
      have hi0 : (0 : Int) ≤ (i : Int) := by omega
      have him : (i : Int) < (m : Int) := by omega
      clear hca hcb
      have HS := Lib.hid (fun w h => rLack_any b (cntI n y t i) (y[i]?.getD 0) (t[i]?.getD 0) w (IA.out i) (IB.out i) h)
      have HB2 := Lib.hid (fun w => bSub_any 0 (t[i]?.getD 0) w (by unfold I64; omega) (IB.out i))
      have Hcd : Hid (cntI n y t (i + 1) = slC (cntK (cntI n y t i) (y[i]?.getD 0) (t[i]?.getD 0)) (y[i]?.getD 0) (t[i]?.getD 0)) := Lib.hid rfl
      have HT := Lib.hid (fun w h => rTake_any b (cntK (cntI n y t i) (y[i]?.getD 0) (t[i]?.getD 0)) (clampI (0 - t[i]?.getD 0)) (over (0 - t[i]?.getD 0)) w h)
      unfold slF at Hsu
      unfold slC at Hcd
      generalize cntK (cntI n y t i) (y[i]?.getD 0) (t[i]?.getD 0) = cn at *
      generalize lackF (y[i]?.getD 0) (t[i]?.getD 0) = d at *
      generalize clampI (0 - t[i]?.getD 0) = ng at *
      generalize over (0 - t[i]?.getD 0) = og at *
      generalize y[i]?.getD 0 = ya at *
      generalize t[i]?.getD 0 = tb at *
      go_wp2
      go_region_held3 (fun w' => w'.cell? ⟨ba, oa + i, none⟩ = some (.int .i64 ya) ∧ w'.cell? ⟨bb, obb + i, none⟩ = some (.int .i64 tb))
        (first | assumption | go_keep)
        (first
          | (go_at_call 75; refine (HS.out _ (hun.out.kept (by (repeat first | assumption | exact Below.refl _ _ | refine Below.drew ?_ | refine Below.drewN ?_ _ | refine Below.alloc ?_ (by (first | omega | (simp; done) | (simp; omega))) _ | refine Below.setCell ?_ (by (first | omega | (simp; done) | (simp; omega))) _ | refine Below.trans ?_ (Below.mono (by assumption) (by (first | omega | (simp; done) | (simp; omega)))))))).mono ?_; rintro e w5 ⟨rfl, hc5, hu5⟩; have z5 := hc5.size; (try simp at z5); have s5 : w5.cell? ⟨ba, oa + i, none⟩ = some (.int .i64 ya) ∧ w5.cell? ⟨bb, obb + i, none⟩ = some (.int .i64 tb) := ⟨(hc5.cell (by simp; omega) hab).trans (by go_simp), (hc5.cell (by simp; omega) hbbb).trans (by go_simp)⟩))
      all_goals
        have HC5 : Hid (Chg (fun k => k = b) wr w5) := Lib.hid (Chg.trans (Chg.of_below (by (repeat first | assumption | exact Below.refl _ _ | refine Below.drew ?_ | refine Below.drewN ?_ _ | refine Below.alloc ?_ (by (first | omega | (simp; done) | (simp; omega))) _ | refine Below.setCell ?_ (by (first | omega | (simp; done) | (simp; omega))) _ | refine Below.trans ?_ (Below.mono (by assumption) (by (first | omega | (simp; done) | (simp; omega))))))) hc5)
        have Hu5 := Lib.hid hu5
        have Hown5 := Lib.hid (ownsRow_chg hown.out HC5.out (by rintro k rfl; omega))
        have HCx : Hid (Chg (fun k => k = b) w w5) := Lib.hid (hch.out.trans HC5.out)
        have eb5 := s5.2
        have z5' := HC5.out.size
        clear hc5 hu5 s5 HS ea eb
        by_cases hpos : 0 < d
        · have hposd : decide (d > 0) = true := by simpa using hpos
          rw [if_pos hpos] at Hsu Hcd
          go_wp2_with fail
          (with_reducible refine (HB2.out _).mono ?_)
          rintro e w6 ⟨rfl, hb6⟩
          have z6 := hb6.size
          go_wp2_with fail
          (with_reducible refine (HT.out _ (Hu5.out.kept hb6)).mono ?_)
          rintro e w7 ⟨rfl, hc7, hu7⟩
          have z7 := hc7.size
          have Hown7 := Lib.hid (ownsRow_chg (ownsRow_kept Hown5.out hb6) hc7 (by rintro k rfl; omega))
          have HC7 : Hid (Chg (fun k => k = b) w w7) := Lib.hid ((HCx.out.trans (Chg.of_below hb6)).trans hc7)
          have Hu7 := Lib.hid hu7
          clear hb6 hc7 hu7
          go_wp2_with (at_builtin; refine wpl_app1 eIs rfl _ _ rfl w.heap.size _ i _ rfl (Hown7.out.alloc _) w7.heap.size (.int .i64 ng) rfl (World.cell?_alloc_at _ _ _ _ rfl) rfl ?c3 ?c4 ?c5 ?_)
          case c3 => unfold maxLen; omega
          case c4 => omega
          case c5 => first | omega | (simp; omega)
          intro v9 w9 hown9 hg9
          have Hch9 := Lib.hid (Chg.grownOf (HC7.out.alloc _) (Hown7.out.alloc _) hg9 (Nat.le_refl _))
          have Hu9 := Lib.hid (UAtL.grown (Hu7.out.kept ((Below.refl _ _).alloc (Nat.le_refl _) _)) (Hown7.out.alloc _) hg9 (by omega))
          have Hown9 := Lib.hid hown9
          clear hown9 hg9
          go_wp2
          go_roundw
          case rel => exact ⟨i + 1, by omega, by go_num, Lib.hid (by rw [Hsu.out]; simpa using Hown9.out), Hch9.out, Lib.hid (by rw [Hcd.out]; exact Hu9.out)⟩
          case measure => simp [intOf]; omega
        · have hposd : decide (d > 0) = false := by simpa using hpos
          rw [if_neg hpos] at Hsu Hcd
          go_wp2_with (at_builtin; refine wpl_app1 eIs rfl _ _ rfl w.heap.size _ i _ rfl (Hown5.out.alloc _) w5.heap.size (.int .i64 0) rfl (World.cell?_alloc_at _ _ _ _ rfl) rfl ?c3 ?c4 ?c5 ?_)
          case c3 => unfold maxLen; omega
          case c4 => omega
          case c5 => first | omega | (simp; omega)
          intro v9 w9 hown9 hg9
          have Hch9 := Lib.hid (Chg.grownOf (HCx.out.alloc _) (Hown5.out.alloc _) hg9 (Nat.le_refl _))
          have Hu9 := Lib.hid (UAtL.grown (Hu5.out.kept ((Below.refl _ _).alloc (Nat.le_refl _) _)) (Hown5.out.alloc _) hg9 (by omega))
          have Hown9 := Lib.hid hown9
          clear hown9 hg9
          go_wp2
          go_roundw
          case rel => exact ⟨i + 1, by omega, by go_num, Lib.hid (by rw [Hsu.out]; simpa using Hown9.out), Hch9.out, Lib.hid (by rw [Hcd.out]; exact Hu9.out)⟩
          case measure => simp [intOf]; omega
    · obtain rfl : m = i := by omega
      go_wp2
      go_ret
      exact ⟨_, rfl, Ow.of hown.out, hch.out, hun.out⟩
end Go.Proofs.Ytdamenbpgkhiiaa
