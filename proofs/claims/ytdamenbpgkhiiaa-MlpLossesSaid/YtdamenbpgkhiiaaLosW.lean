/-
  The walk of regattalaw07.MlpLosses.
-/
import Derived.Test.YtdamenbpgkhiiaaLosA
import Derived.Test.YtdamenbpgkhiiaaFwdA
import Derived.Test.YtdamenbpgkhiiaaRegW
namespace Go.Proofs.Ytdamenbpgkhiiaa
open Go.RowKit
set_option linter.unusedVariables false
set_option linter.unusedSimpArgs false

theorem UAtL.lay (w : World) (E : TypeId) : UAt (w.alloc (.cells #[.int .i64 0] E)) w.heap.size 0 := ⟨World.cell?_alloc_at _ _ _ _ rfl, by go_simp⟩

set_option maxHeartbeats 8000000 in
set_option maxRecDepth 100000 in
theorem los_1 (ay : Option Addr) (m cy : Nat) (y : List Int) (at' : Option Addr) (ct : Nat) (t : List Int) (w : World) (hY : InRow w ay m cy y) (hT : InRow w at' m ct t) (hsx : m ≤ 100 ∧ m ≤ 100) :
    Calls Try.prog 11 #[.int .i64 1, .slice ay m cy, .slice at' m ct] w fun e w' => e = .returned (.bool true) ∧ Below w.heap.size w w' := by
  have HAw := Lib.hid (fun w => awake_any w)
  have HSh := Lib.hid (fun g w h1 h2 => short2_any g m cy m ct ay at' w h1 h2 (by omega) (by omega))
  rw [show decide (m ≤ 100 ∧ m ≤ 100) = true by simpa using hsx] at HSh
  have hm : m ≤ 100 := hsx.1
  have hm2 : m ≤ 65536 := by omega
  have hm3 : m ≤ 100000 := by omega
  have HRy := Lib.hid (hY.rd (by omega))
  have HRt := Lib.hid (hT.rd (by omega))
  have IY := Lib.hid hY.i
  have IT := Lib.hid hT.i
  have oY : Hid (∀ z, ay = some z → 0 < m → z.block < w.heap.size) := Lib.hid (fun z hz h => by
    obtain ⟨b', o', e, hb, _⟩ := HRy.out.2.2 h
    rw [hz] at e; cases e; exact hb)
  have oT : Hid (∀ z, at' = some z → 0 < m → z.block < w.heap.size) := Lib.hid (fun z hz h => by
    obtain ⟨b', o', e, hb, _⟩ := HRt.out.2.2 h
    rw [hz] at e; cases e; exact hb)
  clear hY hT hsx
  go_enter Try.func11, Try.ntmps11
  go_wp2_with fail
  ((with_reducible refine (HAw.out _).mono ?_); rintro e w1 ⟨rfl, hb1⟩)
  have hz1 := hb1.size
  have Hb1 := Lib.hid hb1
  clear hb1 HAw
  go_wp2_with fail
  ((with_reducible refine (HSh.out _ _ (World.cell?_alloc_at _ _ _ _ rfl) (World.cell?_alloc_at _ _ _ _ rfl)).mono ?_); rintro e w3 ⟨rfl, rfl⟩)
  have b4 : Hid (Below w.heap.size w (((w1.alloc (.cells #[.slice ay m cy, .slice at' m ct] 62)).alloc (.cells #[.int .i64 0] 94)).alloc (.cells #[.int .i64 0] 97))) := Lib.hid (by have := Hb1.out; (repeat first | assumption | exact Below.refl _ _ | refine Below.drew ?_ | refine Below.drewN ?_ _ | refine Below.alloc ?_ (by (first | omega | (simp; done) | (simp; omega))) _ | refine Below.setCell ?_ (by (first | omega | (simp; done) | (simp; omega))) _ | refine Below.trans ?_ (Below.mono (by assumption) (by (first | omega | (simp; done) | (simp; omega))))))
  have hU : Hid (UAt (((w1.alloc (.cells #[.slice ay m cy, .slice at' m ct] 62)).alloc (.cells #[.int .i64 0] 94)).alloc (.cells #[.int .i64 0] 97)) (w1.alloc (.cells #[.slice ay m cy, .slice at' m ct] 62)).heap.size 0) := Lib.hid ((UAtL.lay (w1.alloc (.cells #[.slice ay m cy, .slice at' m ct] 62)) 94).kept ((Below.refl _ _).alloc (Nat.le_refl _) _))
  have hV : Hid (UAt (((w1.alloc (.cells #[.slice ay m cy, .slice at' m ct] 62)).alloc (.cells #[.int .i64 0] 94)).alloc (.cells #[.int .i64 0] 97)) ((w1.alloc (.cells #[.slice ay m cy, .slice at' m ct] 62)).alloc (.cells #[.int .i64 0] 94)).heap.size 0) := Lib.hid (UAtL.lay _ 97)
  have hz4 : (((w1.alloc (.cells #[.slice ay m cy, .slice at' m ct] 62)).alloc (.cells #[.int .i64 0] 94)).alloc (.cells #[.int .i64 0] 97)).heap.size = w1.heap.size + 3 := by simp
  rw [show (w1.alloc (.cells #[.slice ay m cy, .slice at' m ct] 62)).heap.size = w1.heap.size + 1 by simp] at hU
  rw [show ((w1.alloc (.cells #[.slice ay m cy, .slice at' m ct] 62)).alloc (.cells #[.int .i64 0] 94)).heap.size = w1.heap.size + 1 + 1 by simp] at hV
  have hz4' := Nat.le_of_eq hz4.symm
  clear hz4
  generalize hW4 : (((w1.alloc (.cells #[.slice ay m cy, .slice at' m ct] 62)).alloc (.cells #[.int .i64 0] 94)).alloc (.cells #[.int .i64 0] 97)) = W4 at *
  go_wp2_with fail
  (try rw [hW4])
  clear hW4
  have oY1 : 0 < m → ∀ z, ay = some z → ¬ UC (some (w1.heap.size + 1)) z.block := fun hm0 z hz h => by
    have e : w1.heap.size + 1 = z.block := by simpa [UC] using h
    have := oY.out z hz hm0; omega
  have oT1 : 0 < m → ∀ z, at' = some z → ¬ UC (some (w1.heap.size + 1)) z.block := fun hm0 z hz h => by
    have e : w1.heap.size + 1 = z.block := by simpa [UC] using h
    have := oT.out z hz hm0; omega
  have OY1 := Lib.hid oY1
  have OT1 := Lib.hid oT1
  clear oY1 oT1
  have HLo := Lib.hid (pLoss1_any (some (w1.heap.size + 1)) 0 m cy ct ay at' y t W4 (HRy.out.kept b4.out) (HRt.out.kept b4.out) hm2 IY.out IT.out (fun b e => by cases e; exact hU.out) OY1.out OT1.out)
  rw [show uV (some (w1.heap.size + 1)) = .pointer (some ⟨w1.heap.size + 1, 0, none⟩) from rfl] at HLo
  ((with_reducible refine (HLo.out).mono ?_); rintro e w5 ⟨rfl, hc5, hu5⟩)
  have z5 := hc5.size
  have hge5 : ∀ q, UC (some (w1.heap.size + 1)) q → w.heap.size ≤ q := fun q hq => by
    have e : w1.heap.size + 1 = q := by simpa [UC] using hq
    omega
  have Hb5 : Hid (Below w.heap.size w w5) := Lib.hid (b4.out.trans (hc5.below (by omega) hge5))
  have HU5 : Hid (UAt w5 (w1.heap.size + 1) (upC (cntD 0 y t m) (over (rne (sqS (subs y t m) m) 8589934592)))) := Lib.hid (hu5 _ rfl)
  have HV5 : Hid (UAt w5 (w1.heap.size + 1 + 1) 0) := Lib.hid (UAtL.chg hV.out hc5 (fun h => by simp [UC] at h))
  have HPy := Lib.hid (fun w' (hb : Below w5.heap.size w5 w') => plain_any ay m cy y w' ((HRy.out.kept Hb5.out).kept hb) (by omega))
  have HPt := Lib.hid (fun w' (hb : Below w5.heap.size w5 w') => plain_any at' m ct t w' ((HRt.out.kept Hb5.out).kept hb) (by omega))
  have Hyl := HRy.out.1
  have Htl := HRt.out.1
  clear hc5 hu5 HLo hU hV b4
  have HCn := Lib.hid (fun n w' (h : UAt w' (w1.heap.size + 1) n) => Count_any (w1.heap.size + 1) n w' h)
  have HR13 := Lib.hid (fun aY cY aT cT w' hr1 hr2 hv oa ob => rLoss1_any (w1.heap.size + 1 + 1) 0 m cY cT aY aT y t w' hr1 hr2 hm3 IY.out IT.out hv oa ob)
  go_wp2
  refine wp_region_held_drew (S := fun _ => Hid True) (by kernel_rfl) (Lib.hid trivial) (fun hHeld => ?_)
  refine tkW (v := ?_) 0 rfl (by kernel_rfl) (by kernel_rfl) (by kernel_rfl) (fun _ _ _ h => h) (by rfl) (by assumption) ?_ ?_
  rotate_left
  · intro w' hSw; clear hSw; go_simp; (try with_reducible rfl)
  (try simp only [Act.put, List.setIfInBounds_toArray, List.set_cons_zero, List.set_cons_succ])
  refine tkW (v := ?_) 1 rfl (by kernel_rfl) (by kernel_rfl) (by kernel_rfl) (fun _ _ _ h => h) (by rfl) (by assumption) ?_ ?_
  rotate_left
  · intro w' hSw; clear hSw; go_simp; (try with_reducible rfl)
  (try simp only [Act.put, List.setIfInBounds_toArray, List.set_cons_zero, List.set_cons_succ])
  refine tkW (v := ?_) 2 rfl (by kernel_rfl) (by kernel_rfl) (by kernel_rfl) (fun _ _ _ h => h) (by rfl) (by assumption) ?_ ?_
  rotate_left
  · intro w' hSw; clear hSw; go_simp; (try with_reducible rfl)
  (try simp only [Act.put, List.setIfInBounds_toArray, List.set_cons_zero, List.set_cons_succ])
  refine tkW (v := ?_) 3 rfl (by kernel_rfl) (by kernel_rfl) (by kernel_rfl) (fun _ _ _ h => h) (by rfl) (by assumption) ?_ ?_
  rotate_left
  · intro w' hSw; clear hSw; go_simp; (try with_reducible rfl)
  (try simp only [Act.put, List.setIfInBounds_toArray, List.set_cons_zero, List.set_cons_succ])
  refine tkW (v := ?_) 4 rfl (by kernel_rfl) (by kernel_rfl) (by kernel_rfl) (fun _ _ _ h => h) (by rfl) (by assumption) ?_ ?_
  rotate_left
  · intro w' hSw; clear hSw; go_simp; (try with_reducible rfl)
  (try simp only [Act.put, List.setIfInBounds_toArray, List.set_cons_zero, List.set_cons_succ])
  refine tkW (v := ?_) 5 rfl (by kernel_rfl) (by kernel_rfl) (by kernel_rfl) (fun _ _ _ h => h) (by rfl) (by assumption) ?_ ?_
  rotate_left
  · intro w' hSw; clear hSw; go_simp; (try with_reducible rfl)
  (try simp only [Act.put, List.setIfInBounds_toArray, List.set_cons_zero, List.set_cons_succ])
  refine tkW (v := ?_) 6 rfl (by kernel_rfl) (by kernel_rfl) (by kernel_rfl) (fun _ _ _ h => h) (by rfl) (by assumption) ?_ ?_
  rotate_left
  · intro w' hSw; clear hSw; go_simp; (try with_reducible rfl)
  (try simp only [Act.put, List.setIfInBounds_toArray, List.set_cons_zero, List.set_cons_succ])
  refine tkW (v := ?_) 8 rfl (by kernel_rfl) (by kernel_rfl) (by kernel_rfl) (fun _ _ _ h => h) (by rfl) (by assumption) ?_ ?_
  rotate_left
  · intro w' hSw; clear hSw; go_simp; (try with_reducible rfl)
  (try simp only [Act.put, List.setIfInBounds_toArray, List.set_cons_zero, List.set_cons_succ])
  refine tkC 7 rfl (by kernel_rfl) (by rfl) (fun K hK => ?_)
  go_simp
  (go_at_call 42; refine (HPy.out _ (by (repeat first | assumption | exact Below.refl _ _ | refine Below.drew ?_ | refine Below.drewN ?_ _ | refine Below.alloc ?_ (by (first | omega | (simp; done) | (simp; omega))) _ | refine Below.setCell ?_ (by (first | omega | (simp; done) | (simp; omega))) _ | refine Below.trans ?_ (Below.mono (by assumption) (by (first | omega | (simp; done) | (simp; omega))))))).mono ?_; rintro e w6 ⟨vY, rfl, hoY, hb6⟩)
  obtain ⟨aY, cY, hvY, _, hbY⟩ := ownsRow_form hoY
  rw [Hyl] at hvY
  subst hvY
  have z6 := hb6.size
  (try simp at z6)
  (try dsimp only)
  refine hK.out _ _ (Lib.hid trivial) (fun hHeld => ?_)
  clear hK K
  (try simp only [Act.put, List.setIfInBounds_toArray, List.set_cons_zero, List.set_cons_succ])
  refine tkC 9 rfl (by kernel_rfl) (by rfl) (fun K hK => ?_)
  go_simp
  (go_at_call 42; refine (HPt.out _ (by (repeat first | assumption | exact Below.refl _ _ | refine Below.drew ?_ | refine Below.drewN ?_ _ | refine Below.alloc ?_ (by (first | omega | (simp; done) | (simp; omega))) _ | refine Below.setCell ?_ (by (first | omega | (simp; done) | (simp; omega))) _ | refine Below.trans ?_ (Below.mono (by assumption) (by (first | omega | (simp; done) | (simp; omega))))))).mono ?_; rintro e w7 ⟨vT, rfl, hoT, hb7⟩)
  obtain ⟨aT, cT, hvT, _, hbT⟩ := ownsRow_form hoT
  rw [Htl] at hvT
  subst hvT
  have z7 := hb7.size
  have HB57 : Hid (Below w5.heap.size w5 w7) := Lib.hid (by (repeat first | assumption | exact Below.refl _ _ | refine Below.drew ?_ | refine Below.drewN ?_ _ | refine Below.alloc ?_ (by (first | omega | (simp; done) | (simp; omega))) _ | refine Below.setCell ?_ (by (first | omega | (simp; done) | (simp; omega))) _ | refine Below.trans ?_ (Below.mono (by assumption) (by (first | omega | (simp; done) | (simp; omega))))))
  (try dsimp only)
  refine hK.out _ _ (Lib.hid trivial) (fun hHeld => ?_)
  clear hK K
  (try simp only [Act.put, List.setIfInBounds_toArray, List.set_cons_zero, List.set_cons_succ])
  refine tkC 10 rfl (by kernel_rfl) (by rfl) (fun K hK => ?_)
  go_simp
  (go_at_call 46; refine (HR13.out _ _ _ _ _ ((Ow.rd (n := m) hoY (by omega)).kept hb7) (Ow.rd (n := m) hoT (by omega)) (HV5.out.kept HB57.out) (fun z hz => by have := (hbY z hz).1; (try simp at this); omega) (fun z hz => by have := (hbT z hz).1; (try simp at this); omega)).mono ?_; rintro e w8 ⟨rfl, hc8, hu8⟩)
  have hc8' := Lib.hid hc8
  have HU8 := Lib.hid (UAtL.chg (HU5.out.kept HB57.out) hc8 (by omega))
  have HV8 := Lib.hid hu8
  have v0 := hu8.cell
  have z8 := hc8.size
  clear hc8 hu8 hoY hoT hbY hbT hb6 hb7 HR13
  (try dsimp only)
  refine hK.out _ _ (Lib.hid trivial) (fun hHeld => ?_)
  clear hK K
  (try simp only [Act.put, List.setIfInBounds_toArray, List.set_cons_zero, List.set_cons_succ])
  refine tkW (v := ?_) 11 rfl (by kernel_rfl) (by kernel_rfl) (by kernel_rfl) (fun _ _ _ h => h) (by rfl) (by assumption) ?_ ?_
  rotate_left
  · intro w' hSw; clear hSw; go_simp; (try with_reducible rfl)
  (try simp only [Act.put, List.setIfInBounds_toArray, List.set_cons_zero, List.set_cons_succ])
  refine tkW (v := ?_) 12 rfl (by kernel_rfl) (by kernel_rfl) (by kernel_rfl) (fun _ _ _ h => h) (by rfl) (by assumption) ?_ ?_
  rotate_left
  · intro w' hSw; clear hSw; go_simp; (try with_reducible rfl)
  (try simp only [Act.put, List.setIfInBounds_toArray, List.set_cons_zero, List.set_cons_succ])
  refine tkW (v := ?_) 13 rfl (by kernel_rfl) (by kernel_rfl) (by kernel_rfl) (fun _ _ _ h => h) (by rfl) (by assumption) ?_ ?_
  rotate_left
  · intro w' hSw; clear hSw; go_simp; (try with_reducible rfl)
  (try simp only [Act.put, List.setIfInBounds_toArray, List.set_cons_zero, List.set_cons_succ])
  refine tkW (v := ?_) 14 rfl (by kernel_rfl) (by kernel_rfl) (by kernel_rfl) (fun _ _ _ h => h) (by rfl) (by assumption) ?_ ?_
  rotate_left
  · intro w' hSw; clear hSw; go_simp; (try with_reducible rfl)
  (try simp only [Act.put, List.setIfInBounds_toArray, List.set_cons_zero, List.set_cons_succ])
  refine tkW (v := ?_) 16 rfl (by kernel_rfl) (by kernel_rfl) (by kernel_rfl) (fun _ _ _ h => h) (by rfl) (by assumption) ?_ ?_
  rotate_left
  · intro w' hSw; clear hSw; go_simp; (try with_reducible rfl)
  (try simp only [Act.put, List.setIfInBounds_toArray, List.set_cons_zero, List.set_cons_succ])
  refine tkW (v := ?_) 17 rfl (by kernel_rfl) (by kernel_rfl) (by kernel_rfl) (fun _ _ _ h => h) (by rfl) (by assumption) ?_ ?_
  rotate_left
  · intro w' hSw; clear hSw; go_simp; (try with_reducible rfl)
  (try simp only [Act.put, List.setIfInBounds_toArray, List.set_cons_zero, List.set_cons_succ])
  refine tkW (v := ?_) 18 rfl (by kernel_rfl) (by kernel_rfl) (by kernel_rfl) (fun _ _ _ h => h) (by rfl) (by assumption) ?_ ?_
  rotate_left
  · intro w' hSw; clear hSw; go_simp; (try with_reducible rfl)
  (try simp only [Act.put, List.setIfInBounds_toArray, List.set_cons_zero, List.set_cons_succ])
  refine tkC2 15 19 rfl rfl (by kernel_rfl) (by rfl) (by rfl) (fun K hK => ?_) (fun K hK => ?_)
  go_simp
  (go_at_call 40; refine (HCn.out _ _ HU8.out).mono ?_; rintro e w9 ⟨rfl, rfl⟩)
  (try dsimp only)
  refine hK.out _ _ (Lib.hid trivial) (fun hHeld => ?_)
  clear hK K
  (try simp only [Act.put, List.setIfInBounds_toArray, List.set_cons_zero, List.set_cons_succ])
  refine tkC 19 rfl (by kernel_rfl) (by rfl) (fun K hK => ?_)
  go_simp
  (try dsimp only)
  refine hK.out _ _ (Lib.hid trivial) (fun hHeld => ?_)
  clear hK K
  (try simp only [Act.put, List.setIfInBounds_toArray, List.set_cons_zero, List.set_cons_succ])
  refine tkW (v := ?_) 20 rfl (by kernel_rfl) (by kernel_rfl) (by kernel_rfl) (fun _ _ _ h => h) (by rfl) (by assumption) ?_ ?_
  rotate_left
  · intro w' hSw; clear hSw; go_simp; (try with_reducible rfl)
  (try simp only [Act.put, List.setIfInBounds_toArray, List.set_cons_zero, List.set_cons_succ])
  refine tkW (v := ?_) 21 rfl (by kernel_rfl) (by kernel_rfl) (by kernel_rfl) (fun _ _ _ h => h) (by rfl) (by assumption) ?_ ?_
  rotate_left
  · intro w' hSw; clear hSw; go_simp; (try with_reducible rfl)
  (try simp only [Act.put, List.setIfInBounds_toArray, List.set_cons_zero, List.set_cons_succ])
  refine wpAnyH_done (by kernel_rfl) ?_ _
  rotate_left
  go_simp
  (try dsimp only)
  refine hK.out _ _ (Lib.hid trivial) (fun hHeld => ?_)
  clear hK K
  (try simp only [Act.put, List.setIfInBounds_toArray, List.set_cons_zero, List.set_cons_succ])
  refine tkC 15 rfl (by kernel_rfl) (by rfl) (fun K hK => ?_)
  go_simp
  (go_at_call 40; refine (HCn.out _ _ HU8.out).mono ?_; rintro e w9 ⟨rfl, rfl⟩)
  (try dsimp only)
  refine hK.out _ _ (Lib.hid trivial) (fun hHeld => ?_)
  clear hK K
  (try simp only [Act.put, List.setIfInBounds_toArray, List.set_cons_zero, List.set_cons_succ])
  refine tkW (v := ?_) 20 rfl (by kernel_rfl) (by kernel_rfl) (by kernel_rfl) (fun _ _ _ h => h) (by rfl) (by assumption) ?_ ?_
  rotate_left
  · intro w' hSw; clear hSw; go_simp; (try with_reducible rfl)
  (try simp only [Act.put, List.setIfInBounds_toArray, List.set_cons_zero, List.set_cons_succ])
  refine tkW (v := ?_) 21 rfl (by kernel_rfl) (by kernel_rfl) (by kernel_rfl) (fun _ _ _ h => h) (by rfl) (by assumption) ?_ ?_
  rotate_left
  · intro w' hSw; clear hSw; go_simp; (try with_reducible rfl)
  (try simp only [Act.put, List.setIfInBounds_toArray, List.set_cons_zero, List.set_cons_succ])
  refine wpAnyH_done (by kernel_rfl) ?_ _
  all_goals
    have Hb8 : Hid (Below w.heap.size w w8) := Lib.hid ((Hb5.out.trans (HB57.out.mono (by omega))).trans (Chg.below (B := w.heap.size) hc8'.out (by omega) (by rintro q rfl; omega)))
    have HSl := Lib.hid (pSlope1_any (some (w1.heap.size + 1)) (upC (cntD 0 y t m) (over (rne (sqS (subs y t m) m) 8589934592))) m cy ct ay at' y t w8 (HRy.out.kept Hb8.out) (HRt.out.kept Hb8.out) hm2 IY.out IT.out (fun b e => by cases e; exact HU8.out) OY1.out OT1.out)
    rw [show uV (some (w1.heap.size + 1)) = .pointer (some ⟨w1.heap.size + 1, 0, none⟩) from rfl] at HSl
    go_wp2_with fail
    ((with_reducible refine (HSl.out).mono ?_); rintro e w10 ⟨vS, rfl, hoS, hc10, hu10⟩)
    obtain ⟨aS, cS, hvS, _, hbS⟩ := ownsRow_form hoS
    rw [show (subs y t m).length = m by simp [subs]] at hvS
    subst hvS
    have z10 := hc10.size
    have HU10 := Lib.hid (hu10 _ rfl)
    have HV10 := Lib.hid (UAtL.chg HV8.out hc10 (fun h => by simp [UC] at h))
    have Hb10 : Hid (Below w.heap.size w w10) := Lib.hid (Hb8.out.trans (Chg.below (B := w.heap.size) hc10 (by omega) hge5))
    have HPs := Lib.hid (fun w' (hb : Below w10.heap.size w10 w') => plain_any aS m cS (subs y t m) w' ((Ow.rd (n := m) hoS (by omega)).kept hb) (by omega))
    have HPy := Lib.hid (fun w' (hb : Below w10.heap.size w10 w') => plain_any ay m cy y w' ((HRy.out.kept Hb10.out).kept hb) (by omega))
    have HPt := Lib.hid (fun w' (hb : Below w10.heap.size w10 w') => plain_any at' m ct t w' ((HRt.out.kept Hb10.out).kept hb) (by omega))
    have HSr := Lib.hid (fun aY cY aT cT w' hr1 hr2 hv oa ob => rSlope1_any (w1.heap.size + 1 + 1) (upC (cntD 0 y t m) (over (rne (sqS (subs y t m) m) 8589934592))) m cY cT aY aT y t w' hr1 hr2 hm3 IY.out IT.out hv oa ob)
    have Hsl : (subs y t m).length = m := by simp [subs]
    clear hoS hc10 hu10 hbS HSl v0
    go_wp2
    refine wp_region_held_drew (S := fun _ => Hid True) (by kernel_rfl) (Lib.hid trivial) (fun hHeld => ?_)
    refine tkW (v := ?_) 0 rfl (by kernel_rfl) (by kernel_rfl) (by kernel_rfl) (fun _ _ _ h => h) (by rfl) (by assumption) ?_ ?_
    rotate_left
    · intro w' hSw; clear hSw; go_simp; (try with_reducible rfl)
    (try simp only [Act.put, List.setIfInBounds_toArray, List.set_cons_zero, List.set_cons_succ])
    refine tkW (v := ?_) 1 rfl (by kernel_rfl) (by kernel_rfl) (by kernel_rfl) (fun _ _ _ h => h) (by rfl) (by assumption) ?_ ?_
    rotate_left
    · intro w' hSw; clear hSw; go_simp; (try with_reducible rfl)
    (try simp only [Act.put, List.setIfInBounds_toArray, List.set_cons_zero, List.set_cons_succ])
    refine tkW (v := ?_) 2 rfl (by kernel_rfl) (by kernel_rfl) (by kernel_rfl) (fun _ _ _ h => h) (by rfl) (by assumption) ?_ ?_
    rotate_left
    · intro w' hSw; clear hSw; go_simp; (try with_reducible rfl)
    (try simp only [Act.put, List.setIfInBounds_toArray, List.set_cons_zero, List.set_cons_succ])
    refine tkW (v := ?_) 3 rfl (by kernel_rfl) (by kernel_rfl) (by kernel_rfl) (fun _ _ _ h => h) (by rfl) (by assumption) ?_ ?_
    rotate_left
    · intro w' hSw; clear hSw; go_simp; (try with_reducible rfl)
    (try simp only [Act.put, List.setIfInBounds_toArray, List.set_cons_zero, List.set_cons_succ])
    refine tkW (v := ?_) 5 rfl (by kernel_rfl) (by kernel_rfl) (by kernel_rfl) (fun _ _ _ h => h) (by rfl) (by assumption) ?_ ?_
    rotate_left
    · intro w' hSw; clear hSw; go_simp; (try with_reducible rfl)
    (try simp only [Act.put, List.setIfInBounds_toArray, List.set_cons_zero, List.set_cons_succ])
    refine tkW (v := ?_) 6 rfl (by kernel_rfl) (by kernel_rfl) (by kernel_rfl) (fun _ _ _ h => h) (by rfl) (by assumption) ?_ ?_
    rotate_left
    · intro w' hSw; clear hSw; go_simp; (try with_reducible rfl)
    (try simp only [Act.put, List.setIfInBounds_toArray, List.set_cons_zero, List.set_cons_succ])
    refine tkW (v := ?_) 7 rfl (by kernel_rfl) (by kernel_rfl) (by kernel_rfl) (fun _ _ _ h => h) (by rfl) (by assumption) ?_ ?_
    rotate_left
    · intro w' hSw; clear hSw; go_simp; (try with_reducible rfl)
    (try simp only [Act.put, List.setIfInBounds_toArray, List.set_cons_zero, List.set_cons_succ])
    refine tkW (v := ?_) 9 rfl (by kernel_rfl) (by kernel_rfl) (by kernel_rfl) (fun _ _ _ h => h) (by rfl) (by assumption) ?_ ?_
    rotate_left
    · intro w' hSw; clear hSw; go_simp; (try with_reducible rfl)
    (try simp only [Act.put, List.setIfInBounds_toArray, List.set_cons_zero, List.set_cons_succ])
    refine tkC 4 rfl (by kernel_rfl) (by rfl) (fun K hK => ?_)
    go_simp
    (go_at_call 42; refine (HPs.out _ (by (repeat first | assumption | exact Below.refl _ _ | refine Below.drew ?_ | refine Below.drewN ?_ _ | refine Below.alloc ?_ (by (first | omega | (simp; done) | (simp; omega))) _ | refine Below.setCell ?_ (by (first | omega | (simp; done) | (simp; omega))) _ | refine Below.trans ?_ (Below.mono (by assumption) (by (first | omega | (simp; done) | (simp; omega))))))).mono ?_; rintro e w11 ⟨vP, rfl, hoP, hb11⟩)
    obtain ⟨aP, cP, hvP, _, hbP⟩ := ownsRow_form hoP
    rw [Hsl] at hvP
    subst hvP
    have z11 := hb11.size
    (try simp at z11)
    (try dsimp only)
    refine hK.out _ _ (Lib.hid trivial) (fun hHeld => ?_)
    clear hK K
    (try simp only [Act.put, List.setIfInBounds_toArray, List.set_cons_zero, List.set_cons_succ])
    refine tkC 8 rfl (by kernel_rfl) (by rfl) (fun K hK => ?_)
    go_simp
    (go_at_call 42; refine (HPy.out _ (by (repeat first | assumption | exact Below.refl _ _ | refine Below.drew ?_ | refine Below.drewN ?_ _ | refine Below.alloc ?_ (by (first | omega | (simp; done) | (simp; omega))) _ | refine Below.setCell ?_ (by (first | omega | (simp; done) | (simp; omega))) _ | refine Below.trans ?_ (Below.mono (by assumption) (by (first | omega | (simp; done) | (simp; omega))))))).mono ?_; rintro e w12 ⟨vY, rfl, hoY, hb12⟩)
    obtain ⟨aY, cY, hvY, _, hbY⟩ := ownsRow_form hoY
    rw [Hyl] at hvY
    subst hvY
    have z12 := hb12.size
    (try dsimp only)
    refine hK.out _ _ (Lib.hid trivial) (fun hHeld => ?_)
    clear hK K
    (try simp only [Act.put, List.setIfInBounds_toArray, List.set_cons_zero, List.set_cons_succ])
    refine tkC 10 rfl (by kernel_rfl) (by rfl) (fun K hK => ?_)
    go_simp
    (go_at_call 42; refine (HPt.out _ (by (repeat first | assumption | exact Below.refl _ _ | refine Below.drew ?_ | refine Below.drewN ?_ _ | refine Below.alloc ?_ (by (first | omega | (simp; done) | (simp; omega))) _ | refine Below.setCell ?_ (by (first | omega | (simp; done) | (simp; omega))) _ | refine Below.trans ?_ (Below.mono (by assumption) (by (first | omega | (simp; done) | (simp; omega))))))).mono ?_; rintro e w13 ⟨vT, rfl, hoT, hb13⟩)
    obtain ⟨aT, cT, hvT, _, hbT⟩ := ownsRow_form hoT
    rw [Htl] at hvT
    subst hvT
    have z13 := hb13.size
    have HB1014 : Hid (Below w10.heap.size w10 w13) := Lib.hid (by (repeat first | assumption | exact Below.refl _ _ | refine Below.drew ?_ | refine Below.drewN ?_ _ | refine Below.alloc ?_ (by (first | omega | (simp; done) | (simp; omega))) _ | refine Below.setCell ?_ (by (first | omega | (simp; done) | (simp; omega))) _ | refine Below.trans ?_ (Below.mono (by assumption) (by (first | omega | (simp; done) | (simp; omega))))))
    have hrP := (Ow.rd (n := m) hoP (by omega)).kept (w' := w13) (hb12.trans (hb13.mono (by omega)))
    (try dsimp only)
    refine hK.out _ _ (Lib.hid trivial) (fun hHeld => ?_)
    clear hK K
    (try simp only [Act.put, List.setIfInBounds_toArray, List.set_cons_zero, List.set_cons_succ])
    refine tkC 11 rfl (by kernel_rfl) (by rfl) (fun K hK => ?_)
    go_simp
    (go_at_call 47; refine (HSr.out _ _ _ _ _ ((Ow.rd (n := m) hoY (by omega)).kept hb13) (Ow.rd (n := m) hoT (by omega)) (HV10.out.kept HB1014.out) (fun z hz => by have := (hbY z hz).1; (try simp at this); omega) (fun z hz => by have := (hbT z hz).1; (try simp at this); omega)).mono ?_; rintro e w14 ⟨vQ, rfl, hoQ, hc14, hu14⟩)
    obtain ⟨aQ, cQ, hvQ, _, hbQ⟩ := ownsRow_form hoQ
    rw [Hsl] at hvQ
    subst hvQ
    have hc14' := Lib.hid hc14
    have hrP14 := hrP.chg hc14 (fun z hz h => by have := (hbP z hz).1; (try simp at this); omega)
    have HU14 := Lib.hid (UAtL.chg (HU10.out.kept HB1014.out) hc14 (by omega))
    have HV14 := Lib.hid hu14
    have z14 := hc14.size
    have hrQ := Ow.rd (n := m) hoQ (by omega)
    clear hc14 hu14 hoY hoT hbY hbT hb11 hb12 hb13 hoP hoQ hbQ hrP HSr
    (try dsimp only)
    refine hK.out _ _ (Lib.hid trivial) (fun hHeld => ?_)
    clear hK K
    (try simp only [Act.put, List.setIfInBounds_toArray, List.set_cons_zero, List.set_cons_succ])
    refine tkC 12 rfl (by kernel_rfl) (by rfl) (fun K hK => ?_)
    go_simp
    (go_at_call 43; refine (rSame_any aP aQ m cP cQ _ _ hrP14 hrQ).mono ?_; rintro e w15 ⟨rfl, ⟨nd, rfl⟩⟩)
    have v0 : (w14.drewN nd).cell? ⟨w1.heap.size + 1 + 1, 0, none⟩ = _ := HV14.out.cell
    clear hrP14 hrQ
    (try dsimp only)
    refine hK.out _ _ (Lib.hid trivial) (fun hHeld => ?_)
    clear hK K
    (try simp only [Act.put, List.setIfInBounds_toArray, List.set_cons_zero, List.set_cons_succ])
    refine tkW (v := ?_) 13 rfl (by kernel_rfl) (by kernel_rfl) (by kernel_rfl) (fun _ _ _ h => h) (by rfl) (by assumption) ?_ ?_
    rotate_left
    · intro w' hSw; clear hSw; go_simp; (try with_reducible rfl)
    (try simp only [Act.put, List.setIfInBounds_toArray, List.set_cons_zero, List.set_cons_succ])
    refine tkW (v := ?_) 14 rfl (by kernel_rfl) (by kernel_rfl) (by kernel_rfl) (fun _ _ _ h => h) (by rfl) (by assumption) ?_ ?_
    rotate_left
    · intro w' hSw; clear hSw; go_simp; (try with_reducible rfl)
    (try simp only [Act.put, List.setIfInBounds_toArray, List.set_cons_zero, List.set_cons_succ])
    refine tkW (v := ?_) 15 rfl (by kernel_rfl) (by kernel_rfl) (by kernel_rfl) (fun _ _ _ h => h) (by rfl) (by assumption) ?_ ?_
    rotate_left
    · intro w' hSw; clear hSw; go_simp; (try with_reducible rfl)
    (try simp only [Act.put, List.setIfInBounds_toArray, List.set_cons_zero, List.set_cons_succ])
    refine tkW (v := ?_) 17 rfl (by kernel_rfl) (by kernel_rfl) (by kernel_rfl) (fun _ _ _ h => h) (by rfl) (by assumption) ?_ ?_
    rotate_left
    · intro w' hSw; clear hSw; go_simp; (try with_reducible rfl)
    (try simp only [Act.put, List.setIfInBounds_toArray, List.set_cons_zero, List.set_cons_succ])
    refine tkW (v := ?_) 18 rfl (by kernel_rfl) (by kernel_rfl) (by kernel_rfl) (fun _ _ _ h => h) (by rfl) (by assumption) ?_ ?_
    rotate_left
    · intro w' hSw; clear hSw; go_simp; (try with_reducible rfl)
    (try simp only [Act.put, List.setIfInBounds_toArray, List.set_cons_zero, List.set_cons_succ])
    refine tkW (v := ?_) 19 rfl (by kernel_rfl) (by kernel_rfl) (by kernel_rfl) (fun _ _ _ h => h) (by rfl) (by assumption) ?_ ?_
    rotate_left
    · intro w' hSw; clear hSw; go_simp; (try with_reducible rfl)
    (try simp only [Act.put, List.setIfInBounds_toArray, List.set_cons_zero, List.set_cons_succ])
    refine tkC2 16 20 rfl rfl (by kernel_rfl) (by rfl) (by rfl) (fun K hK => ?_) (fun K hK => ?_)
    go_simp
    (go_at_call 40; refine (HCn.out _ _ (HU14.out.kept (by (repeat first | assumption | exact Below.refl _ _ | refine Below.drew ?_ | refine Below.drewN ?_ _ | refine Below.alloc ?_ (by (first | omega | (simp; done) | (simp; omega))) _ | refine Below.setCell ?_ (by (first | omega | (simp; done) | (simp; omega))) _ | refine Below.trans ?_ (Below.mono (by assumption) (by (first | omega | (simp; done) | (simp; omega)))))))).mono ?_; rintro e w16 ⟨rfl, rfl⟩)
    (try dsimp only)
    refine hK.out _ _ (Lib.hid trivial) (fun hHeld => ?_)
    clear hK K
    (try simp only [Act.put, List.setIfInBounds_toArray, List.set_cons_zero, List.set_cons_succ])
    refine tkC 20 rfl (by kernel_rfl) (by rfl) (fun K hK => ?_)
    go_simp
    (try dsimp only)
    refine hK.out _ _ (Lib.hid trivial) (fun hHeld => ?_)
    clear hK K
    (try simp only [Act.put, List.setIfInBounds_toArray, List.set_cons_zero, List.set_cons_succ])
    refine tkW (v := ?_) 21 rfl (by kernel_rfl) (by kernel_rfl) (by kernel_rfl) (fun _ _ _ h => h) (by rfl) (by assumption) ?_ ?_
    rotate_left
    · intro w' hSw; clear hSw; go_simp; (try with_reducible rfl)
    (try simp only [Act.put, List.setIfInBounds_toArray, List.set_cons_zero, List.set_cons_succ])
    refine tkW (v := ?_) 22 rfl (by kernel_rfl) (by kernel_rfl) (by kernel_rfl) (fun _ _ _ h => h) (by rfl) (by assumption) ?_ ?_
    rotate_left
    · intro w' hSw; clear hSw; go_simp; (try with_reducible rfl)
    (try simp only [Act.put, List.setIfInBounds_toArray, List.set_cons_zero, List.set_cons_succ])
    refine tkW (v := ?_) 23 rfl (by kernel_rfl) (by kernel_rfl) (by kernel_rfl) (fun _ _ _ h => h) (by rfl) (by assumption) ?_ ?_
    rotate_left
    · intro w' hSw; clear hSw; go_simp; (try with_reducible rfl)
    (try simp only [Act.put, List.setIfInBounds_toArray, List.set_cons_zero, List.set_cons_succ])
    refine wpAnyH_done (by kernel_rfl) ?_ _
    rotate_left
    go_simp
    (try dsimp only)
    refine hK.out _ _ (Lib.hid trivial) (fun hHeld => ?_)
    clear hK K
    (try simp only [Act.put, List.setIfInBounds_toArray, List.set_cons_zero, List.set_cons_succ])
    refine tkC 16 rfl (by kernel_rfl) (by rfl) (fun K hK => ?_)
    go_simp
    (go_at_call 40; refine (HCn.out _ _ (HU14.out.kept (by (repeat first | assumption | exact Below.refl _ _ | refine Below.drew ?_ | refine Below.drewN ?_ _ | refine Below.alloc ?_ (by (first | omega | (simp; done) | (simp; omega))) _ | refine Below.setCell ?_ (by (first | omega | (simp; done) | (simp; omega))) _ | refine Below.trans ?_ (Below.mono (by assumption) (by (first | omega | (simp; done) | (simp; omega)))))))).mono ?_; rintro e w16 ⟨rfl, rfl⟩)
    (try dsimp only)
    refine hK.out _ _ (Lib.hid trivial) (fun hHeld => ?_)
    clear hK K
    (try simp only [Act.put, List.setIfInBounds_toArray, List.set_cons_zero, List.set_cons_succ])
    refine tkW (v := ?_) 21 rfl (by kernel_rfl) (by kernel_rfl) (by kernel_rfl) (fun _ _ _ h => h) (by rfl) (by assumption) ?_ ?_
    rotate_left
    · intro w' hSw; clear hSw; go_simp; (try with_reducible rfl)
    (try simp only [Act.put, List.setIfInBounds_toArray, List.set_cons_zero, List.set_cons_succ])
    refine tkW (v := ?_) 22 rfl (by kernel_rfl) (by kernel_rfl) (by kernel_rfl) (fun _ _ _ h => h) (by rfl) (by assumption) ?_ ?_
    rotate_left
    · intro w' hSw; clear hSw; go_simp; (try with_reducible rfl)
    (try simp only [Act.put, List.setIfInBounds_toArray, List.set_cons_zero, List.set_cons_succ])
    refine tkW (v := ?_) 23 rfl (by kernel_rfl) (by kernel_rfl) (by kernel_rfl) (fun _ _ _ h => h) (by rfl) (by assumption) ?_ ?_
    rotate_left
    · intro w' hSw; clear hSw; go_simp; (try with_reducible rfl)
    (try simp only [Act.put, List.setIfInBounds_toArray, List.set_cons_zero, List.set_cons_succ])
    refine wpAnyH_done (by kernel_rfl) ?_ _
    all_goals go_wp2
    all_goals go_ret
    all_goals exact ⟨rfl, (Hb10.out.trans (HB1014.out.mono (by omega))).trans ((Chg.below (B := w.heap.size) hc14'.out (by omega) (by rintro q rfl; omega)).trans (Go.Proofs.Ytdamenbpgkhiiaa.Below.drewN (Below.refl _ _) _))⟩

set_option maxHeartbeats 8000000 in
set_option maxRecDepth 100000 in
theorem los_2 (ay : Option Addr) (m cy : Nat) (y : List Int) (at' : Option Addr) (ct : Nat) (t : List Int) (w : World) (hY : InRow w ay m cy y) (hT : InRow w at' m ct t) (hsx : m ≤ 100 ∧ m ≤ 100) :
    Calls Try.prog 11 #[.int .i64 2, .slice ay m cy, .slice at' m ct] w fun e w' => e = .returned (.bool true) ∧ Below w.heap.size w w' := by
  have HAw := Lib.hid (fun w => awake_any w)
  have HSh := Lib.hid (fun g w h1 h2 => short2_any g m cy m ct ay at' w h1 h2 (by omega) (by omega))
  rw [show decide (m ≤ 100 ∧ m ≤ 100) = true by simpa using hsx] at HSh
  have hm : m ≤ 100 := hsx.1
  have hm2 : m ≤ 65536 := by omega
  have hm3 : m ≤ 100000 := by omega
  have HRy := Lib.hid (hY.rd (by omega))
  have HRt := Lib.hid (hT.rd (by omega))
  have IY := Lib.hid hY.i
  have IT := Lib.hid hT.i
  have oY : Hid (∀ z, ay = some z → 0 < m → z.block < w.heap.size) := Lib.hid (fun z hz h => by
    obtain ⟨b', o', e, hb, _⟩ := HRy.out.2.2 h
    rw [hz] at e; cases e; exact hb)
  have oT : Hid (∀ z, at' = some z → 0 < m → z.block < w.heap.size) := Lib.hid (fun z hz h => by
    obtain ⟨b', o', e, hb, _⟩ := HRt.out.2.2 h
    rw [hz] at e; cases e; exact hb)
  clear hY hT hsx
  go_enter Try.func11, Try.ntmps11
  go_wp2_with fail
  ((with_reducible refine (HAw.out _).mono ?_); rintro e w1 ⟨rfl, hb1⟩)
  have hz1 := hb1.size
  have Hb1 := Lib.hid hb1
  clear hb1 HAw
  go_wp2_with fail
  ((with_reducible refine (HSh.out _ _ (World.cell?_alloc_at _ _ _ _ rfl) (World.cell?_alloc_at _ _ _ _ rfl)).mono ?_); rintro e w3 ⟨rfl, rfl⟩)
  have b4 : Hid (Below w.heap.size w (((w1.alloc (.cells #[.slice ay m cy, .slice at' m ct] 62)).alloc (.cells #[.int .i64 0] 94)).alloc (.cells #[.int .i64 0] 97))) := Lib.hid (by have := Hb1.out; (repeat first | assumption | exact Below.refl _ _ | refine Below.drew ?_ | refine Below.drewN ?_ _ | refine Below.alloc ?_ (by (first | omega | (simp; done) | (simp; omega))) _ | refine Below.setCell ?_ (by (first | omega | (simp; done) | (simp; omega))) _ | refine Below.trans ?_ (Below.mono (by assumption) (by (first | omega | (simp; done) | (simp; omega))))))
  have hU : Hid (UAt (((w1.alloc (.cells #[.slice ay m cy, .slice at' m ct] 62)).alloc (.cells #[.int .i64 0] 94)).alloc (.cells #[.int .i64 0] 97)) (w1.alloc (.cells #[.slice ay m cy, .slice at' m ct] 62)).heap.size 0) := Lib.hid ((UAtL.lay (w1.alloc (.cells #[.slice ay m cy, .slice at' m ct] 62)) 94).kept ((Below.refl _ _).alloc (Nat.le_refl _) _))
  have hV : Hid (UAt (((w1.alloc (.cells #[.slice ay m cy, .slice at' m ct] 62)).alloc (.cells #[.int .i64 0] 94)).alloc (.cells #[.int .i64 0] 97)) ((w1.alloc (.cells #[.slice ay m cy, .slice at' m ct] 62)).alloc (.cells #[.int .i64 0] 94)).heap.size 0) := Lib.hid (UAtL.lay _ 97)
  have hz4 : (((w1.alloc (.cells #[.slice ay m cy, .slice at' m ct] 62)).alloc (.cells #[.int .i64 0] 94)).alloc (.cells #[.int .i64 0] 97)).heap.size = w1.heap.size + 3 := by simp
  rw [show (w1.alloc (.cells #[.slice ay m cy, .slice at' m ct] 62)).heap.size = w1.heap.size + 1 by simp] at hU
  rw [show ((w1.alloc (.cells #[.slice ay m cy, .slice at' m ct] 62)).alloc (.cells #[.int .i64 0] 94)).heap.size = w1.heap.size + 1 + 1 by simp] at hV
  have hz4' := Nat.le_of_eq hz4.symm
  clear hz4
  generalize hW4 : (((w1.alloc (.cells #[.slice ay m cy, .slice at' m ct] 62)).alloc (.cells #[.int .i64 0] 94)).alloc (.cells #[.int .i64 0] 97)) = W4 at *
  go_wp2_with fail
  (try rw [hW4])
  clear hW4
  have oY1 : 0 < m → ∀ z, ay = some z → ¬ UC (some (w1.heap.size + 1)) z.block := fun hm0 z hz h => by
    have e : w1.heap.size + 1 = z.block := by simpa [UC] using h
    have := oY.out z hz hm0; omega
  have oT1 : 0 < m → ∀ z, at' = some z → ¬ UC (some (w1.heap.size + 1)) z.block := fun hm0 z hz h => by
    have e : w1.heap.size + 1 = z.block := by simpa [UC] using h
    have := oT.out z hz hm0; omega
  have OY1 := Lib.hid oY1
  have OT1 := Lib.hid oT1
  clear oY1 oT1
  have HLo := Lib.hid (pLoss2_any (some (w1.heap.size + 1)) 0 m cy ct ay at' y t W4 (HRy.out.kept b4.out) (HRt.out.kept b4.out) hm2 IY.out IT.out (fun b e => by cases e; exact hU.out) OY1.out OT1.out)
  rw [show uV (some (w1.heap.size + 1)) = .pointer (some ⟨w1.heap.size + 1, 0, none⟩) from rfl] at HLo
  ((with_reducible refine (HLo.out).mono ?_); rintro e w5 ⟨rfl, hc5, hu5⟩)
  have z5 := hc5.size
  have hge5 : ∀ q, UC (some (w1.heap.size + 1)) q → w.heap.size ≤ q := fun q hq => by
    have e : w1.heap.size + 1 = q := by simpa [UC] using hq
    omega
  have Hb5 : Hid (Below w.heap.size w w5) := Lib.hid (b4.out.trans (hc5.below (by omega) hge5))
  have HU5 : Hid (UAt w5 (w1.heap.size + 1) (upC (cntH 0 y t m) (over (hgS y t m)))) := Lib.hid (hu5 _ rfl)
  have HV5 : Hid (UAt w5 (w1.heap.size + 1 + 1) 0) := Lib.hid (UAtL.chg hV.out hc5 (fun h => by simp [UC] at h))
  have HPy := Lib.hid (fun w' (hb : Below w5.heap.size w5 w') => plain_any ay m cy y w' ((HRy.out.kept Hb5.out).kept hb) (by omega))
  have HPt := Lib.hid (fun w' (hb : Below w5.heap.size w5 w') => plain_any at' m ct t w' ((HRt.out.kept Hb5.out).kept hb) (by omega))
  have Hyl := HRy.out.1
  have Htl := HRt.out.1
  clear hc5 hu5 HLo hU hV b4
  have HCn := Lib.hid (fun n w' (h : UAt w' (w1.heap.size + 1) n) => Count_any (w1.heap.size + 1) n w' h)
  have HR13 := Lib.hid (fun aY cY aT cT w' hr1 hr2 hv oa ob => rLoss2_any (w1.heap.size + 1 + 1) 0 m cY cT aY aT y t w' hr1 hr2 hm3 IY.out IT.out hv oa ob)
  go_wp2
  refine wp_region_held_drew (S := fun _ => Hid True) (by kernel_rfl) (Lib.hid trivial) (fun hHeld => ?_)
  refine tkW (v := ?_) 0 rfl (by kernel_rfl) (by kernel_rfl) (by kernel_rfl) (fun _ _ _ h => h) (by rfl) (by assumption) ?_ ?_
  rotate_left
  · intro w' hSw; clear hSw; go_simp; (try with_reducible rfl)
  (try simp only [Act.put, List.setIfInBounds_toArray, List.set_cons_zero, List.set_cons_succ])
  refine tkW (v := ?_) 1 rfl (by kernel_rfl) (by kernel_rfl) (by kernel_rfl) (fun _ _ _ h => h) (by rfl) (by assumption) ?_ ?_
  rotate_left
  · intro w' hSw; clear hSw; go_simp; (try with_reducible rfl)
  (try simp only [Act.put, List.setIfInBounds_toArray, List.set_cons_zero, List.set_cons_succ])
  refine tkW (v := ?_) 2 rfl (by kernel_rfl) (by kernel_rfl) (by kernel_rfl) (fun _ _ _ h => h) (by rfl) (by assumption) ?_ ?_
  rotate_left
  · intro w' hSw; clear hSw; go_simp; (try with_reducible rfl)
  (try simp only [Act.put, List.setIfInBounds_toArray, List.set_cons_zero, List.set_cons_succ])
  refine tkW (v := ?_) 3 rfl (by kernel_rfl) (by kernel_rfl) (by kernel_rfl) (fun _ _ _ h => h) (by rfl) (by assumption) ?_ ?_
  rotate_left
  · intro w' hSw; clear hSw; go_simp; (try with_reducible rfl)
  (try simp only [Act.put, List.setIfInBounds_toArray, List.set_cons_zero, List.set_cons_succ])
  refine tkW (v := ?_) 4 rfl (by kernel_rfl) (by kernel_rfl) (by kernel_rfl) (fun _ _ _ h => h) (by rfl) (by assumption) ?_ ?_
  rotate_left
  · intro w' hSw; clear hSw; go_simp; (try with_reducible rfl)
  (try simp only [Act.put, List.setIfInBounds_toArray, List.set_cons_zero, List.set_cons_succ])
  refine tkW (v := ?_) 5 rfl (by kernel_rfl) (by kernel_rfl) (by kernel_rfl) (fun _ _ _ h => h) (by rfl) (by assumption) ?_ ?_
  rotate_left
  · intro w' hSw; clear hSw; go_simp; (try with_reducible rfl)
  (try simp only [Act.put, List.setIfInBounds_toArray, List.set_cons_zero, List.set_cons_succ])
  refine tkW (v := ?_) 6 rfl (by kernel_rfl) (by kernel_rfl) (by kernel_rfl) (fun _ _ _ h => h) (by rfl) (by assumption) ?_ ?_
  rotate_left
  · intro w' hSw; clear hSw; go_simp; (try with_reducible rfl)
  (try simp only [Act.put, List.setIfInBounds_toArray, List.set_cons_zero, List.set_cons_succ])
  refine tkW (v := ?_) 8 rfl (by kernel_rfl) (by kernel_rfl) (by kernel_rfl) (fun _ _ _ h => h) (by rfl) (by assumption) ?_ ?_
  rotate_left
  · intro w' hSw; clear hSw; go_simp; (try with_reducible rfl)
  (try simp only [Act.put, List.setIfInBounds_toArray, List.set_cons_zero, List.set_cons_succ])
  refine tkC 7 rfl (by kernel_rfl) (by rfl) (fun K hK => ?_)
  go_simp
  (go_at_call 42; refine (HPy.out _ (by (repeat first | assumption | exact Below.refl _ _ | refine Below.drew ?_ | refine Below.drewN ?_ _ | refine Below.alloc ?_ (by (first | omega | (simp; done) | (simp; omega))) _ | refine Below.setCell ?_ (by (first | omega | (simp; done) | (simp; omega))) _ | refine Below.trans ?_ (Below.mono (by assumption) (by (first | omega | (simp; done) | (simp; omega))))))).mono ?_; rintro e w6 ⟨vY, rfl, hoY, hb6⟩)
  obtain ⟨aY, cY, hvY, _, hbY⟩ := ownsRow_form hoY
  rw [Hyl] at hvY
  subst hvY
  have z6 := hb6.size
  (try simp at z6)
  (try dsimp only)
  refine hK.out _ _ (Lib.hid trivial) (fun hHeld => ?_)
  clear hK K
  (try simp only [Act.put, List.setIfInBounds_toArray, List.set_cons_zero, List.set_cons_succ])
  refine tkC 9 rfl (by kernel_rfl) (by rfl) (fun K hK => ?_)
  go_simp
  (go_at_call 42; refine (HPt.out _ (by (repeat first | assumption | exact Below.refl _ _ | refine Below.drew ?_ | refine Below.drewN ?_ _ | refine Below.alloc ?_ (by (first | omega | (simp; done) | (simp; omega))) _ | refine Below.setCell ?_ (by (first | omega | (simp; done) | (simp; omega))) _ | refine Below.trans ?_ (Below.mono (by assumption) (by (first | omega | (simp; done) | (simp; omega))))))).mono ?_; rintro e w7 ⟨vT, rfl, hoT, hb7⟩)
  obtain ⟨aT, cT, hvT, _, hbT⟩ := ownsRow_form hoT
  rw [Htl] at hvT
  subst hvT
  have z7 := hb7.size
  have HB57 : Hid (Below w5.heap.size w5 w7) := Lib.hid (by (repeat first | assumption | exact Below.refl _ _ | refine Below.drew ?_ | refine Below.drewN ?_ _ | refine Below.alloc ?_ (by (first | omega | (simp; done) | (simp; omega))) _ | refine Below.setCell ?_ (by (first | omega | (simp; done) | (simp; omega))) _ | refine Below.trans ?_ (Below.mono (by assumption) (by (first | omega | (simp; done) | (simp; omega))))))
  (try dsimp only)
  refine hK.out _ _ (Lib.hid trivial) (fun hHeld => ?_)
  clear hK K
  (try simp only [Act.put, List.setIfInBounds_toArray, List.set_cons_zero, List.set_cons_succ])
  refine tkC 10 rfl (by kernel_rfl) (by rfl) (fun K hK => ?_)
  go_simp
  (go_at_call 46; refine (HR13.out _ _ _ _ _ ((Ow.rd (n := m) hoY (by omega)).kept hb7) (Ow.rd (n := m) hoT (by omega)) (HV5.out.kept HB57.out) (fun z hz => by have := (hbY z hz).1; (try simp at this); omega) (fun z hz => by have := (hbT z hz).1; (try simp at this); omega)).mono ?_; rintro e w8 ⟨rfl, hc8, hu8⟩)
  have hc8' := Lib.hid hc8
  have HU8 := Lib.hid (UAtL.chg (HU5.out.kept HB57.out) hc8 (by omega))
  have HV8 := Lib.hid hu8
  have v0 := hu8.cell
  have z8 := hc8.size
  clear hc8 hu8 hoY hoT hbY hbT hb6 hb7 HR13
  (try dsimp only)
  refine hK.out _ _ (Lib.hid trivial) (fun hHeld => ?_)
  clear hK K
  (try simp only [Act.put, List.setIfInBounds_toArray, List.set_cons_zero, List.set_cons_succ])
  refine tkW (v := ?_) 11 rfl (by kernel_rfl) (by kernel_rfl) (by kernel_rfl) (fun _ _ _ h => h) (by rfl) (by assumption) ?_ ?_
  rotate_left
  · intro w' hSw; clear hSw; go_simp; (try with_reducible rfl)
  (try simp only [Act.put, List.setIfInBounds_toArray, List.set_cons_zero, List.set_cons_succ])
  refine tkW (v := ?_) 12 rfl (by kernel_rfl) (by kernel_rfl) (by kernel_rfl) (fun _ _ _ h => h) (by rfl) (by assumption) ?_ ?_
  rotate_left
  · intro w' hSw; clear hSw; go_simp; (try with_reducible rfl)
  (try simp only [Act.put, List.setIfInBounds_toArray, List.set_cons_zero, List.set_cons_succ])
  refine tkW (v := ?_) 13 rfl (by kernel_rfl) (by kernel_rfl) (by kernel_rfl) (fun _ _ _ h => h) (by rfl) (by assumption) ?_ ?_
  rotate_left
  · intro w' hSw; clear hSw; go_simp; (try with_reducible rfl)
  (try simp only [Act.put, List.setIfInBounds_toArray, List.set_cons_zero, List.set_cons_succ])
  refine tkW (v := ?_) 14 rfl (by kernel_rfl) (by kernel_rfl) (by kernel_rfl) (fun _ _ _ h => h) (by rfl) (by assumption) ?_ ?_
  rotate_left
  · intro w' hSw; clear hSw; go_simp; (try with_reducible rfl)
  (try simp only [Act.put, List.setIfInBounds_toArray, List.set_cons_zero, List.set_cons_succ])
  refine tkW (v := ?_) 16 rfl (by kernel_rfl) (by kernel_rfl) (by kernel_rfl) (fun _ _ _ h => h) (by rfl) (by assumption) ?_ ?_
  rotate_left
  · intro w' hSw; clear hSw; go_simp; (try with_reducible rfl)
  (try simp only [Act.put, List.setIfInBounds_toArray, List.set_cons_zero, List.set_cons_succ])
  refine tkW (v := ?_) 17 rfl (by kernel_rfl) (by kernel_rfl) (by kernel_rfl) (fun _ _ _ h => h) (by rfl) (by assumption) ?_ ?_
  rotate_left
  · intro w' hSw; clear hSw; go_simp; (try with_reducible rfl)
  (try simp only [Act.put, List.setIfInBounds_toArray, List.set_cons_zero, List.set_cons_succ])
  refine tkW (v := ?_) 18 rfl (by kernel_rfl) (by kernel_rfl) (by kernel_rfl) (fun _ _ _ h => h) (by rfl) (by assumption) ?_ ?_
  rotate_left
  · intro w' hSw; clear hSw; go_simp; (try with_reducible rfl)
  (try simp only [Act.put, List.setIfInBounds_toArray, List.set_cons_zero, List.set_cons_succ])
  refine tkC2 15 19 rfl rfl (by kernel_rfl) (by rfl) (by rfl) (fun K hK => ?_) (fun K hK => ?_)
  go_simp
  (go_at_call 40; refine (HCn.out _ _ HU8.out).mono ?_; rintro e w9 ⟨rfl, rfl⟩)
  (try dsimp only)
  refine hK.out _ _ (Lib.hid trivial) (fun hHeld => ?_)
  clear hK K
  (try simp only [Act.put, List.setIfInBounds_toArray, List.set_cons_zero, List.set_cons_succ])
  refine tkC 19 rfl (by kernel_rfl) (by rfl) (fun K hK => ?_)
  go_simp
  (try dsimp only)
  refine hK.out _ _ (Lib.hid trivial) (fun hHeld => ?_)
  clear hK K
  (try simp only [Act.put, List.setIfInBounds_toArray, List.set_cons_zero, List.set_cons_succ])
  refine tkW (v := ?_) 20 rfl (by kernel_rfl) (by kernel_rfl) (by kernel_rfl) (fun _ _ _ h => h) (by rfl) (by assumption) ?_ ?_
  rotate_left
  · intro w' hSw; clear hSw; go_simp; (try with_reducible rfl)
  (try simp only [Act.put, List.setIfInBounds_toArray, List.set_cons_zero, List.set_cons_succ])
  refine tkW (v := ?_) 21 rfl (by kernel_rfl) (by kernel_rfl) (by kernel_rfl) (fun _ _ _ h => h) (by rfl) (by assumption) ?_ ?_
  rotate_left
  · intro w' hSw; clear hSw; go_simp; (try with_reducible rfl)
  (try simp only [Act.put, List.setIfInBounds_toArray, List.set_cons_zero, List.set_cons_succ])
  refine wpAnyH_done (by kernel_rfl) ?_ _
  rotate_left
  go_simp
  (try dsimp only)
  refine hK.out _ _ (Lib.hid trivial) (fun hHeld => ?_)
  clear hK K
  (try simp only [Act.put, List.setIfInBounds_toArray, List.set_cons_zero, List.set_cons_succ])
  refine tkC 15 rfl (by kernel_rfl) (by rfl) (fun K hK => ?_)
  go_simp
  (go_at_call 40; refine (HCn.out _ _ HU8.out).mono ?_; rintro e w9 ⟨rfl, rfl⟩)
  (try dsimp only)
  refine hK.out _ _ (Lib.hid trivial) (fun hHeld => ?_)
  clear hK K
  (try simp only [Act.put, List.setIfInBounds_toArray, List.set_cons_zero, List.set_cons_succ])
  refine tkW (v := ?_) 20 rfl (by kernel_rfl) (by kernel_rfl) (by kernel_rfl) (fun _ _ _ h => h) (by rfl) (by assumption) ?_ ?_
  rotate_left
  · intro w' hSw; clear hSw; go_simp; (try with_reducible rfl)
  (try simp only [Act.put, List.setIfInBounds_toArray, List.set_cons_zero, List.set_cons_succ])
  refine tkW (v := ?_) 21 rfl (by kernel_rfl) (by kernel_rfl) (by kernel_rfl) (fun _ _ _ h => h) (by rfl) (by assumption) ?_ ?_
  rotate_left
  · intro w' hSw; clear hSw; go_simp; (try with_reducible rfl)
  (try simp only [Act.put, List.setIfInBounds_toArray, List.set_cons_zero, List.set_cons_succ])
  refine wpAnyH_done (by kernel_rfl) ?_ _
  all_goals
    have Hb8 : Hid (Below w.heap.size w w8) := Lib.hid ((Hb5.out.trans (HB57.out.mono (by omega))).trans (Chg.below (B := w.heap.size) hc8'.out (by omega) (by rintro q rfl; omega)))
    have HSl := Lib.hid (pSlope2_any (some (w1.heap.size + 1)) (upC (cntH 0 y t m) (over (hgS y t m))) m cy ct ay at' y t w8 (HRy.out.kept Hb8.out) (HRt.out.kept Hb8.out) hm2 IY.out IT.out (fun b e => by cases e; exact HU8.out) OY1.out OT1.out)
    rw [show uV (some (w1.heap.size + 1)) = .pointer (some ⟨w1.heap.size + 1, 0, none⟩) from rfl] at HSl
    go_wp2_with fail
    ((with_reducible refine (HSl.out).mono ?_); rintro e w10 ⟨vS, rfl, hoS, hc10, hu10⟩)
    obtain ⟨aS, cS, hvS, _, hbS⟩ := ownsRow_form hoS
    rw [show (slS y t m).length = m by simp [slS]] at hvS
    subst hvS
    have z10 := hc10.size
    have HU10 := Lib.hid (hu10 _ rfl)
    have HV10 := Lib.hid (UAtL.chg HV8.out hc10 (fun h => by simp [UC] at h))
    have Hb10 : Hid (Below w.heap.size w w10) := Lib.hid (Hb8.out.trans (Chg.below (B := w.heap.size) hc10 (by omega) hge5))
    have HPs := Lib.hid (fun w' (hb : Below w10.heap.size w10 w') => plain_any aS m cS (slS y t m) w' ((Ow.rd (n := m) hoS (by omega)).kept hb) (by omega))
    have HPy := Lib.hid (fun w' (hb : Below w10.heap.size w10 w') => plain_any ay m cy y w' ((HRy.out.kept Hb10.out).kept hb) (by omega))
    have HPt := Lib.hid (fun w' (hb : Below w10.heap.size w10 w') => plain_any at' m ct t w' ((HRt.out.kept Hb10.out).kept hb) (by omega))
    have HSr := Lib.hid (fun aY cY aT cT w' hr1 hr2 hv oa ob => rSlope2_any (w1.heap.size + 1 + 1) (upC (cntH 0 y t m) (over (hgS y t m))) m cY cT aY aT y t w' hr1 hr2 hm3 IY.out IT.out hv oa ob)
    rw [cntI_eq] at HSr
    have Hsl : (slS y t m).length = m := by simp [slS]
    clear hoS hc10 hu10 hbS HSl v0
    go_wp2
    refine wp_region_held_drew (S := fun _ => Hid True) (by kernel_rfl) (Lib.hid trivial) (fun hHeld => ?_)
    refine tkW (v := ?_) 0 rfl (by kernel_rfl) (by kernel_rfl) (by kernel_rfl) (fun _ _ _ h => h) (by rfl) (by assumption) ?_ ?_
    rotate_left
    · intro w' hSw; clear hSw; go_simp; (try with_reducible rfl)
    (try simp only [Act.put, List.setIfInBounds_toArray, List.set_cons_zero, List.set_cons_succ])
    refine tkW (v := ?_) 1 rfl (by kernel_rfl) (by kernel_rfl) (by kernel_rfl) (fun _ _ _ h => h) (by rfl) (by assumption) ?_ ?_
    rotate_left
    · intro w' hSw; clear hSw; go_simp; (try with_reducible rfl)
    (try simp only [Act.put, List.setIfInBounds_toArray, List.set_cons_zero, List.set_cons_succ])
    refine tkW (v := ?_) 2 rfl (by kernel_rfl) (by kernel_rfl) (by kernel_rfl) (fun _ _ _ h => h) (by rfl) (by assumption) ?_ ?_
    rotate_left
    · intro w' hSw; clear hSw; go_simp; (try with_reducible rfl)
    (try simp only [Act.put, List.setIfInBounds_toArray, List.set_cons_zero, List.set_cons_succ])
    refine tkW (v := ?_) 3 rfl (by kernel_rfl) (by kernel_rfl) (by kernel_rfl) (fun _ _ _ h => h) (by rfl) (by assumption) ?_ ?_
    rotate_left
    · intro w' hSw; clear hSw; go_simp; (try with_reducible rfl)
    (try simp only [Act.put, List.setIfInBounds_toArray, List.set_cons_zero, List.set_cons_succ])
    refine tkW (v := ?_) 5 rfl (by kernel_rfl) (by kernel_rfl) (by kernel_rfl) (fun _ _ _ h => h) (by rfl) (by assumption) ?_ ?_
    rotate_left
    · intro w' hSw; clear hSw; go_simp; (try with_reducible rfl)
    (try simp only [Act.put, List.setIfInBounds_toArray, List.set_cons_zero, List.set_cons_succ])
    refine tkW (v := ?_) 6 rfl (by kernel_rfl) (by kernel_rfl) (by kernel_rfl) (fun _ _ _ h => h) (by rfl) (by assumption) ?_ ?_
    rotate_left
    · intro w' hSw; clear hSw; go_simp; (try with_reducible rfl)
    (try simp only [Act.put, List.setIfInBounds_toArray, List.set_cons_zero, List.set_cons_succ])
    refine tkW (v := ?_) 7 rfl (by kernel_rfl) (by kernel_rfl) (by kernel_rfl) (fun _ _ _ h => h) (by rfl) (by assumption) ?_ ?_
    rotate_left
    · intro w' hSw; clear hSw; go_simp; (try with_reducible rfl)
    (try simp only [Act.put, List.setIfInBounds_toArray, List.set_cons_zero, List.set_cons_succ])
    refine tkW (v := ?_) 9 rfl (by kernel_rfl) (by kernel_rfl) (by kernel_rfl) (fun _ _ _ h => h) (by rfl) (by assumption) ?_ ?_
    rotate_left
    · intro w' hSw; clear hSw; go_simp; (try with_reducible rfl)
    (try simp only [Act.put, List.setIfInBounds_toArray, List.set_cons_zero, List.set_cons_succ])
    refine tkC 4 rfl (by kernel_rfl) (by rfl) (fun K hK => ?_)
    go_simp
    (go_at_call 42; refine (HPs.out _ (by (repeat first | assumption | exact Below.refl _ _ | refine Below.drew ?_ | refine Below.drewN ?_ _ | refine Below.alloc ?_ (by (first | omega | (simp; done) | (simp; omega))) _ | refine Below.setCell ?_ (by (first | omega | (simp; done) | (simp; omega))) _ | refine Below.trans ?_ (Below.mono (by assumption) (by (first | omega | (simp; done) | (simp; omega))))))).mono ?_; rintro e w11 ⟨vP, rfl, hoP, hb11⟩)
    obtain ⟨aP, cP, hvP, _, hbP⟩ := ownsRow_form hoP
    rw [Hsl] at hvP
    subst hvP
    have z11 := hb11.size
    (try simp at z11)
    (try dsimp only)
    refine hK.out _ _ (Lib.hid trivial) (fun hHeld => ?_)
    clear hK K
    (try simp only [Act.put, List.setIfInBounds_toArray, List.set_cons_zero, List.set_cons_succ])
    refine tkC 8 rfl (by kernel_rfl) (by rfl) (fun K hK => ?_)
    go_simp
    (go_at_call 42; refine (HPy.out _ (by (repeat first | assumption | exact Below.refl _ _ | refine Below.drew ?_ | refine Below.drewN ?_ _ | refine Below.alloc ?_ (by (first | omega | (simp; done) | (simp; omega))) _ | refine Below.setCell ?_ (by (first | omega | (simp; done) | (simp; omega))) _ | refine Below.trans ?_ (Below.mono (by assumption) (by (first | omega | (simp; done) | (simp; omega))))))).mono ?_; rintro e w12 ⟨vY, rfl, hoY, hb12⟩)
    obtain ⟨aY, cY, hvY, _, hbY⟩ := ownsRow_form hoY
    rw [Hyl] at hvY
    subst hvY
    have z12 := hb12.size
    (try dsimp only)
    refine hK.out _ _ (Lib.hid trivial) (fun hHeld => ?_)
    clear hK K
    (try simp only [Act.put, List.setIfInBounds_toArray, List.set_cons_zero, List.set_cons_succ])
    refine tkC 10 rfl (by kernel_rfl) (by rfl) (fun K hK => ?_)
    go_simp
    (go_at_call 42; refine (HPt.out _ (by (repeat first | assumption | exact Below.refl _ _ | refine Below.drew ?_ | refine Below.drewN ?_ _ | refine Below.alloc ?_ (by (first | omega | (simp; done) | (simp; omega))) _ | refine Below.setCell ?_ (by (first | omega | (simp; done) | (simp; omega))) _ | refine Below.trans ?_ (Below.mono (by assumption) (by (first | omega | (simp; done) | (simp; omega))))))).mono ?_; rintro e w13 ⟨vT, rfl, hoT, hb13⟩)
    obtain ⟨aT, cT, hvT, _, hbT⟩ := ownsRow_form hoT
    rw [Htl] at hvT
    subst hvT
    have z13 := hb13.size
    have HB1014 : Hid (Below w10.heap.size w10 w13) := Lib.hid (by (repeat first | assumption | exact Below.refl _ _ | refine Below.drew ?_ | refine Below.drewN ?_ _ | refine Below.alloc ?_ (by (first | omega | (simp; done) | (simp; omega))) _ | refine Below.setCell ?_ (by (first | omega | (simp; done) | (simp; omega))) _ | refine Below.trans ?_ (Below.mono (by assumption) (by (first | omega | (simp; done) | (simp; omega))))))
    have hrP := (Ow.rd (n := m) hoP (by omega)).kept (w' := w13) (hb12.trans (hb13.mono (by omega)))
    (try dsimp only)
    refine hK.out _ _ (Lib.hid trivial) (fun hHeld => ?_)
    clear hK K
    (try simp only [Act.put, List.setIfInBounds_toArray, List.set_cons_zero, List.set_cons_succ])
    refine tkC 11 rfl (by kernel_rfl) (by rfl) (fun K hK => ?_)
    go_simp
    (go_at_call 47; refine (HSr.out _ _ _ _ _ ((Ow.rd (n := m) hoY (by omega)).kept hb13) (Ow.rd (n := m) hoT (by omega)) (HV10.out.kept HB1014.out) (fun z hz => by have := (hbY z hz).1; (try simp at this); omega) (fun z hz => by have := (hbT z hz).1; (try simp at this); omega)).mono ?_; rintro e w14 ⟨vQ, rfl, hoQ, hc14, hu14⟩)
    obtain ⟨aQ, cQ, hvQ, _, hbQ⟩ := ownsRow_form hoQ
    rw [Hsl] at hvQ
    subst hvQ
    have hc14' := Lib.hid hc14
    have hrP14 := hrP.chg hc14 (fun z hz h => by have := (hbP z hz).1; (try simp at this); omega)
    have HU14 := Lib.hid (UAtL.chg (HU10.out.kept HB1014.out) hc14 (by omega))
    have HV14 := Lib.hid hu14
    have z14 := hc14.size
    have hrQ := Ow.rd (n := m) hoQ (by omega)
    clear hc14 hu14 hoY hoT hbY hbT hb11 hb12 hb13 hoP hoQ hbQ hrP HSr
    (try dsimp only)
    refine hK.out _ _ (Lib.hid trivial) (fun hHeld => ?_)
    clear hK K
    (try simp only [Act.put, List.setIfInBounds_toArray, List.set_cons_zero, List.set_cons_succ])
    refine tkC 12 rfl (by kernel_rfl) (by rfl) (fun K hK => ?_)
    go_simp
    (go_at_call 43; refine (rSame_any aP aQ m cP cQ _ _ hrP14 hrQ).mono ?_; rintro e w15 ⟨rfl, ⟨nd, rfl⟩⟩)
    have v0 : (w14.drewN nd).cell? ⟨w1.heap.size + 1 + 1, 0, none⟩ = _ := HV14.out.cell
    clear hrP14 hrQ
    (try dsimp only)
    refine hK.out _ _ (Lib.hid trivial) (fun hHeld => ?_)
    clear hK K
    (try simp only [Act.put, List.setIfInBounds_toArray, List.set_cons_zero, List.set_cons_succ])
    refine tkW (v := ?_) 13 rfl (by kernel_rfl) (by kernel_rfl) (by kernel_rfl) (fun _ _ _ h => h) (by rfl) (by assumption) ?_ ?_
    rotate_left
    · intro w' hSw; clear hSw; go_simp; (try with_reducible rfl)
    (try simp only [Act.put, List.setIfInBounds_toArray, List.set_cons_zero, List.set_cons_succ])
    refine tkW (v := ?_) 14 rfl (by kernel_rfl) (by kernel_rfl) (by kernel_rfl) (fun _ _ _ h => h) (by rfl) (by assumption) ?_ ?_
    rotate_left
    · intro w' hSw; clear hSw; go_simp; (try with_reducible rfl)
    (try simp only [Act.put, List.setIfInBounds_toArray, List.set_cons_zero, List.set_cons_succ])
    refine tkW (v := ?_) 15 rfl (by kernel_rfl) (by kernel_rfl) (by kernel_rfl) (fun _ _ _ h => h) (by rfl) (by assumption) ?_ ?_
    rotate_left
    · intro w' hSw; clear hSw; go_simp; (try with_reducible rfl)
    (try simp only [Act.put, List.setIfInBounds_toArray, List.set_cons_zero, List.set_cons_succ])
    refine tkW (v := ?_) 17 rfl (by kernel_rfl) (by kernel_rfl) (by kernel_rfl) (fun _ _ _ h => h) (by rfl) (by assumption) ?_ ?_
    rotate_left
    · intro w' hSw; clear hSw; go_simp; (try with_reducible rfl)
    (try simp only [Act.put, List.setIfInBounds_toArray, List.set_cons_zero, List.set_cons_succ])
    refine tkW (v := ?_) 18 rfl (by kernel_rfl) (by kernel_rfl) (by kernel_rfl) (fun _ _ _ h => h) (by rfl) (by assumption) ?_ ?_
    rotate_left
    · intro w' hSw; clear hSw; go_simp; (try with_reducible rfl)
    (try simp only [Act.put, List.setIfInBounds_toArray, List.set_cons_zero, List.set_cons_succ])
    refine tkW (v := ?_) 19 rfl (by kernel_rfl) (by kernel_rfl) (by kernel_rfl) (fun _ _ _ h => h) (by rfl) (by assumption) ?_ ?_
    rotate_left
    · intro w' hSw; clear hSw; go_simp; (try with_reducible rfl)
    (try simp only [Act.put, List.setIfInBounds_toArray, List.set_cons_zero, List.set_cons_succ])
    refine tkC2 16 20 rfl rfl (by kernel_rfl) (by rfl) (by rfl) (fun K hK => ?_) (fun K hK => ?_)
    go_simp
    (go_at_call 40; refine (HCn.out _ _ (HU14.out.kept (by (repeat first | assumption | exact Below.refl _ _ | refine Below.drew ?_ | refine Below.drewN ?_ _ | refine Below.alloc ?_ (by (first | omega | (simp; done) | (simp; omega))) _ | refine Below.setCell ?_ (by (first | omega | (simp; done) | (simp; omega))) _ | refine Below.trans ?_ (Below.mono (by assumption) (by (first | omega | (simp; done) | (simp; omega)))))))).mono ?_; rintro e w16 ⟨rfl, rfl⟩)
    (try dsimp only)
    refine hK.out _ _ (Lib.hid trivial) (fun hHeld => ?_)
    clear hK K
    (try simp only [Act.put, List.setIfInBounds_toArray, List.set_cons_zero, List.set_cons_succ])
    refine tkC 20 rfl (by kernel_rfl) (by rfl) (fun K hK => ?_)
    go_simp
    (try dsimp only)
    refine hK.out _ _ (Lib.hid trivial) (fun hHeld => ?_)
    clear hK K
    (try simp only [Act.put, List.setIfInBounds_toArray, List.set_cons_zero, List.set_cons_succ])
    refine tkW (v := ?_) 21 rfl (by kernel_rfl) (by kernel_rfl) (by kernel_rfl) (fun _ _ _ h => h) (by rfl) (by assumption) ?_ ?_
    rotate_left
    · intro w' hSw; clear hSw; go_simp; (try with_reducible rfl)
    (try simp only [Act.put, List.setIfInBounds_toArray, List.set_cons_zero, List.set_cons_succ])
    refine tkW (v := ?_) 22 rfl (by kernel_rfl) (by kernel_rfl) (by kernel_rfl) (fun _ _ _ h => h) (by rfl) (by assumption) ?_ ?_
    rotate_left
    · intro w' hSw; clear hSw; go_simp; (try with_reducible rfl)
    (try simp only [Act.put, List.setIfInBounds_toArray, List.set_cons_zero, List.set_cons_succ])
    refine tkW (v := ?_) 23 rfl (by kernel_rfl) (by kernel_rfl) (by kernel_rfl) (fun _ _ _ h => h) (by rfl) (by assumption) ?_ ?_
    rotate_left
    · intro w' hSw; clear hSw; go_simp; (try with_reducible rfl)
    (try simp only [Act.put, List.setIfInBounds_toArray, List.set_cons_zero, List.set_cons_succ])
    refine wpAnyH_done (by kernel_rfl) ?_ _
    rotate_left
    go_simp
    (try dsimp only)
    refine hK.out _ _ (Lib.hid trivial) (fun hHeld => ?_)
    clear hK K
    (try simp only [Act.put, List.setIfInBounds_toArray, List.set_cons_zero, List.set_cons_succ])
    refine tkC 16 rfl (by kernel_rfl) (by rfl) (fun K hK => ?_)
    go_simp
    (go_at_call 40; refine (HCn.out _ _ (HU14.out.kept (by (repeat first | assumption | exact Below.refl _ _ | refine Below.drew ?_ | refine Below.drewN ?_ _ | refine Below.alloc ?_ (by (first | omega | (simp; done) | (simp; omega))) _ | refine Below.setCell ?_ (by (first | omega | (simp; done) | (simp; omega))) _ | refine Below.trans ?_ (Below.mono (by assumption) (by (first | omega | (simp; done) | (simp; omega)))))))).mono ?_; rintro e w16 ⟨rfl, rfl⟩)
    (try dsimp only)
    refine hK.out _ _ (Lib.hid trivial) (fun hHeld => ?_)
    clear hK K
    (try simp only [Act.put, List.setIfInBounds_toArray, List.set_cons_zero, List.set_cons_succ])
    refine tkW (v := ?_) 21 rfl (by kernel_rfl) (by kernel_rfl) (by kernel_rfl) (fun _ _ _ h => h) (by rfl) (by assumption) ?_ ?_
    rotate_left
    · intro w' hSw; clear hSw; go_simp; (try with_reducible rfl)
    (try simp only [Act.put, List.setIfInBounds_toArray, List.set_cons_zero, List.set_cons_succ])
    refine tkW (v := ?_) 22 rfl (by kernel_rfl) (by kernel_rfl) (by kernel_rfl) (fun _ _ _ h => h) (by rfl) (by assumption) ?_ ?_
    rotate_left
    · intro w' hSw; clear hSw; go_simp; (try with_reducible rfl)
    (try simp only [Act.put, List.setIfInBounds_toArray, List.set_cons_zero, List.set_cons_succ])
    refine tkW (v := ?_) 23 rfl (by kernel_rfl) (by kernel_rfl) (by kernel_rfl) (fun _ _ _ h => h) (by rfl) (by assumption) ?_ ?_
    rotate_left
    · intro w' hSw; clear hSw; go_simp; (try with_reducible rfl)
    (try simp only [Act.put, List.setIfInBounds_toArray, List.set_cons_zero, List.set_cons_succ])
    refine wpAnyH_done (by kernel_rfl) ?_ _
    all_goals go_wp2
    all_goals go_ret
    all_goals exact ⟨rfl, (Hb10.out.trans (HB1014.out.mono (by omega))).trans ((Chg.below (B := w.heap.size) hc14'.out (by omega) (by rintro q rfl; omega)).trans (Go.Proofs.Ytdamenbpgkhiiaa.Below.drewN (Below.refl _ _) _))⟩

set_option maxHeartbeats 8000000 in
set_option maxRecDepth 100000 in
theorem los_walk (k : Int) (ay : Option Addr) (ny cy : Nat) (y : List Int) (at' : Option Addr) (nt ct : Nat) (t : List Int) (w : World) (hY : InRow w ay ny cy y) (hT : InRow w at' nt ct t) :
    Calls Try.prog 11 #[.int .i64 k, .slice ay ny cy, .slice at' nt ct] w fun e w' => e = .returned (.bool true) ∧ Below w.heap.size w w' := by
  by_cases hg : (ny ≤ 100 ∧ nt ≤ 100) ∧ (k = 1 ∨ k = 2) ∧ ny = nt
  · obtain ⟨hsx, hk, rfl⟩ := hg
    rcases hk with rfl | rfl
    · exact los_1 ay ny cy y at' ct t w hY hT hsx
    · exact los_2 ay ny cy y at' ct t w hY hT hsx
  · have hnym : ny ≤ 9223372036854775807 := by have := hY.nc; have := hY.cm; omega
    have hntm : nt ≤ 9223372036854775807 := by have := hT.nc; have := hT.cm; omega
    have HAw := Lib.hid (fun w => awake_any w)
    have HSh := Lib.hid (fun g w h1 h2 => short2_any g ny cy nt ct ay at' w h1 h2 hnym hntm)
    by_cases hsx : ny ≤ 100 ∧ nt ≤ 100
    · rw [show decide (ny ≤ 100 ∧ nt ≤ 100) = true by simpa using hsx] at HSh
      by_cases h1 : k = 1
      · have hne : ny ≠ nt := fun h => hg ⟨hsx, Or.inl h1, h⟩
        subst h1
        clear hg
        have HL := Lib.hid (fun u w => pLoss_bad u 1 40 ay at' ny nt cy ct w (by omega) (fun w => asked_len 167 1 ay at' ny nt cy ct w hne (fun w => of_sq w)))
        have HS := Lib.hid (fun u w => pSlope_bad u 1 40 ay at' ny nt cy ct w (by omega) (fun w => asked_len 167 1 ay at' ny nt cy ct w hne (fun w => of_sq w)))
        have e1 : ((ny : Int) != (nt : Int)) = true := by simpa using (by omega : ¬ (ny : Int) = nt)
        have e2 : ((ny : Int) == (nt : Int)) = false := by simpa using (by omega : ¬ (ny : Int) = nt)
        clear hY hT hsx hne
        go_enter Try.func11, Try.ntmps11
        go_wp2_with fail
        ((with_reducible refine (HAw.out _).mono ?_); rintro e w1 ⟨rfl, hb1⟩)
        have hz1 := hb1.size
        have Hb1 := Lib.hid hb1
        clear hb1 HAw
        go_wp2_with fail
        ((with_reducible refine (HSh.out _ _ (World.cell?_alloc_at _ _ _ _ rfl) (World.cell?_alloc_at _ _ _ _ rfl)).mono ?_); rintro e w3 ⟨rfl, rfl⟩)
        have b4 : Hid (Below w.heap.size w (((w1.alloc (.cells #[.slice ay ny cy, .slice at' nt ct] 62)).alloc (.cells #[.int .i64 0] 94)).alloc (.cells #[.int .i64 0] 97))) := Lib.hid (by have := Hb1.out; (repeat first | assumption | exact Below.refl _ _ | refine Below.drew ?_ | refine Below.drewN ?_ _ | refine Below.alloc ?_ (by (first | omega | (simp; done) | (simp; omega))) _ | refine Below.setCell ?_ (by (first | omega | (simp; done) | (simp; omega))) _ | refine Below.trans ?_ (Below.mono (by assumption) (by (first | omega | (simp; done) | (simp; omega))))))
        have hU : Hid (UAt (((w1.alloc (.cells #[.slice ay ny cy, .slice at' nt ct] 62)).alloc (.cells #[.int .i64 0] 94)).alloc (.cells #[.int .i64 0] 97)) (w1.alloc (.cells #[.slice ay ny cy, .slice at' nt ct] 62)).heap.size 0) := Lib.hid ((UAtL.lay (w1.alloc (.cells #[.slice ay ny cy, .slice at' nt ct] 62)) 94).kept ((Below.refl _ _).alloc (Nat.le_refl _) _))
        have hV : Hid (UAt (((w1.alloc (.cells #[.slice ay ny cy, .slice at' nt ct] 62)).alloc (.cells #[.int .i64 0] 94)).alloc (.cells #[.int .i64 0] 97)) ((w1.alloc (.cells #[.slice ay ny cy, .slice at' nt ct] 62)).alloc (.cells #[.int .i64 0] 94)).heap.size 0) := Lib.hid (UAtL.lay _ 97)
        have hz4 : (((w1.alloc (.cells #[.slice ay ny cy, .slice at' nt ct] 62)).alloc (.cells #[.int .i64 0] 94)).alloc (.cells #[.int .i64 0] 97)).heap.size = w1.heap.size + 3 := by simp
        rw [show (w1.alloc (.cells #[.slice ay ny cy, .slice at' nt ct] 62)).heap.size = w1.heap.size + 1 by simp] at hU
        rw [show ((w1.alloc (.cells #[.slice ay ny cy, .slice at' nt ct] 62)).alloc (.cells #[.int .i64 0] 94)).heap.size = w1.heap.size + 1 + 1 by simp] at hV
        have hz4' := Nat.le_of_eq hz4.symm
        clear hz4
        generalize hW4 : (((w1.alloc (.cells #[.slice ay ny cy, .slice at' nt ct] 62)).alloc (.cells #[.int .i64 0] 94)).alloc (.cells #[.int .i64 0] 97)) = W4 at *
        go_wp2_with fail
        (try rw [hW4])
        clear hW4
        ((with_reducible refine (HL.out _ _).mono ?_); rintro e w5 ⟨rfl, rfl⟩)
        have HCn := Lib.hid (fun w' (h : UAt w' (w1.heap.size + 1) 0) => Count_any (w1.heap.size + 1) 0 w' h)
        go_wp2_with first
          | ((with_reducible refine (HS.out _ _).mono ?_); rintro e w6 ⟨rfl, rfl⟩)
          | ((with_reducible refine (HCn.out _ (hU.out.kept (by (repeat first | assumption | exact Below.refl _ _ | refine Below.drew ?_ | refine Below.drewN ?_ _ | refine Below.alloc ?_ (by (first | omega | (simp; done) | (simp; omega))) _ | refine Below.setCell ?_ (by (first | omega | (simp; done) | (simp; omega))) _ | refine Below.trans ?_ (Below.mono (by assumption) (by (first | omega | (simp; done) | (simp; omega)))))))).mono ?_); rintro e w7 ⟨rfl, rfl⟩)
          | fail
        go_ret
        exact ⟨rfl, by have := b4.out; (repeat first | assumption | exact Below.refl _ _ | refine Below.drew ?_ | refine Below.drewN ?_ _ | refine Below.alloc ?_ (by (first | omega | (simp; done) | (simp; omega))) _ | refine Below.setCell ?_ (by (first | omega | (simp; done) | (simp; omega))) _ | refine Below.trans ?_ (Below.mono (by assumption) (by (first | omega | (simp; done) | (simp; omega)))))⟩
      · by_cases h2 : k = 2
        · have hne : ny ≠ nt := fun h => hg ⟨hsx, Or.inr h2, h⟩
          subst h2
          clear hg h1
          have HL := Lib.hid (fun u w => pLoss_bad u 2 40 ay at' ny nt cy ct w (by omega) (fun w => asked_len 168 2 ay at' ny nt cy ct w hne (fun w => of_hi w)))
          have HS := Lib.hid (fun u w => pSlope_bad u 2 40 ay at' ny nt cy ct w (by omega) (fun w => asked_len 168 2 ay at' ny nt cy ct w hne (fun w => of_hi w)))
          have e1 : ((ny : Int) != (nt : Int)) = true := by simpa using (by omega : ¬ (ny : Int) = nt)
          have e2 : ((ny : Int) == (nt : Int)) = false := by simpa using (by omega : ¬ (ny : Int) = nt)
          clear hY hT hsx hne
          go_enter Try.func11, Try.ntmps11
          go_wp2_with fail
          ((with_reducible refine (HAw.out _).mono ?_); rintro e w1 ⟨rfl, hb1⟩)
          have hz1 := hb1.size
          have Hb1 := Lib.hid hb1
          clear hb1 HAw
          go_wp2_with fail
          ((with_reducible refine (HSh.out _ _ (World.cell?_alloc_at _ _ _ _ rfl) (World.cell?_alloc_at _ _ _ _ rfl)).mono ?_); rintro e w3 ⟨rfl, rfl⟩)
          have b4 : Hid (Below w.heap.size w (((w1.alloc (.cells #[.slice ay ny cy, .slice at' nt ct] 62)).alloc (.cells #[.int .i64 0] 94)).alloc (.cells #[.int .i64 0] 97))) := Lib.hid (by have := Hb1.out; (repeat first | assumption | exact Below.refl _ _ | refine Below.drew ?_ | refine Below.drewN ?_ _ | refine Below.alloc ?_ (by (first | omega | (simp; done) | (simp; omega))) _ | refine Below.setCell ?_ (by (first | omega | (simp; done) | (simp; omega))) _ | refine Below.trans ?_ (Below.mono (by assumption) (by (first | omega | (simp; done) | (simp; omega))))))
          have hU : Hid (UAt (((w1.alloc (.cells #[.slice ay ny cy, .slice at' nt ct] 62)).alloc (.cells #[.int .i64 0] 94)).alloc (.cells #[.int .i64 0] 97)) (w1.alloc (.cells #[.slice ay ny cy, .slice at' nt ct] 62)).heap.size 0) := Lib.hid ((UAtL.lay (w1.alloc (.cells #[.slice ay ny cy, .slice at' nt ct] 62)) 94).kept ((Below.refl _ _).alloc (Nat.le_refl _) _))
          have hV : Hid (UAt (((w1.alloc (.cells #[.slice ay ny cy, .slice at' nt ct] 62)).alloc (.cells #[.int .i64 0] 94)).alloc (.cells #[.int .i64 0] 97)) ((w1.alloc (.cells #[.slice ay ny cy, .slice at' nt ct] 62)).alloc (.cells #[.int .i64 0] 94)).heap.size 0) := Lib.hid (UAtL.lay _ 97)
          have hz4 : (((w1.alloc (.cells #[.slice ay ny cy, .slice at' nt ct] 62)).alloc (.cells #[.int .i64 0] 94)).alloc (.cells #[.int .i64 0] 97)).heap.size = w1.heap.size + 3 := by simp
          rw [show (w1.alloc (.cells #[.slice ay ny cy, .slice at' nt ct] 62)).heap.size = w1.heap.size + 1 by simp] at hU
          rw [show ((w1.alloc (.cells #[.slice ay ny cy, .slice at' nt ct] 62)).alloc (.cells #[.int .i64 0] 94)).heap.size = w1.heap.size + 1 + 1 by simp] at hV
          have hz4' := Nat.le_of_eq hz4.symm
          clear hz4
          generalize hW4 : (((w1.alloc (.cells #[.slice ay ny cy, .slice at' nt ct] 62)).alloc (.cells #[.int .i64 0] 94)).alloc (.cells #[.int .i64 0] 97)) = W4 at *
          go_wp2_with fail
          (try rw [hW4])
          clear hW4
          ((with_reducible refine (HL.out _ _).mono ?_); rintro e w5 ⟨rfl, rfl⟩)
          have HCn := Lib.hid (fun w' (h : UAt w' (w1.heap.size + 1) 0) => Count_any (w1.heap.size + 1) 0 w' h)
          go_wp2_with first
            | ((with_reducible refine (HS.out _ _).mono ?_); rintro e w6 ⟨rfl, rfl⟩)
            | ((with_reducible refine (HCn.out _ (hU.out.kept (by (repeat first | assumption | exact Below.refl _ _ | refine Below.drew ?_ | refine Below.drewN ?_ _ | refine Below.alloc ?_ (by (first | omega | (simp; done) | (simp; omega))) _ | refine Below.setCell ?_ (by (first | omega | (simp; done) | (simp; omega))) _ | refine Below.trans ?_ (Below.mono (by assumption) (by (first | omega | (simp; done) | (simp; omega)))))))).mono ?_); rintro e w7 ⟨rfl, rfl⟩)
            | fail
          go_ret
          exact ⟨rfl, by have := b4.out; (repeat first | assumption | exact Below.refl _ _ | refine Below.drew ?_ | refine Below.drewN ?_ _ | refine Below.alloc ?_ (by (first | omega | (simp; done) | (simp; omega))) _ | refine Below.setCell ?_ (by (first | omega | (simp; done) | (simp; omega))) _ | refine Below.trans ?_ (Below.mono (by assumption) (by (first | omega | (simp; done) | (simp; omega)))))⟩
        · clear hg
          have HL := Lib.hid (fun u w => pLoss_bad u k 71 ay at' ny nt cy ct w (by omega) (fun w => asked_no k ay at' ny nt cy ct w h1 h2))
          have HS := Lib.hid (fun u w => pSlope_bad u k 71 ay at' ny nt cy ct w (by omega) (fun w => asked_no k ay at' ny nt cy ct w h1 h2))
          have e1 : (k != 1) = true := by simpa using h1
          have e2 : (k != 2) = true := by simpa using h2
          have e3 : (k == 1) = false := by simpa using h1
          have e4 : (k == 2) = false := by simpa using h2
          clear hY hT hsx h1 h2
          go_enter Try.func11, Try.ntmps11
          go_wp2_with fail
          ((with_reducible refine (HAw.out _).mono ?_); rintro e w1 ⟨rfl, hb1⟩)
          have hz1 := hb1.size
          have Hb1 := Lib.hid hb1
          clear hb1 HAw
          go_wp2_with fail
          ((with_reducible refine (HSh.out _ _ (World.cell?_alloc_at _ _ _ _ rfl) (World.cell?_alloc_at _ _ _ _ rfl)).mono ?_); rintro e w3 ⟨rfl, rfl⟩)
          have b4 : Hid (Below w.heap.size w (((w1.alloc (.cells #[.slice ay ny cy, .slice at' nt ct] 62)).alloc (.cells #[.int .i64 0] 94)).alloc (.cells #[.int .i64 0] 97))) := Lib.hid (by have := Hb1.out; (repeat first | assumption | exact Below.refl _ _ | refine Below.drew ?_ | refine Below.drewN ?_ _ | refine Below.alloc ?_ (by (first | omega | (simp; done) | (simp; omega))) _ | refine Below.setCell ?_ (by (first | omega | (simp; done) | (simp; omega))) _ | refine Below.trans ?_ (Below.mono (by assumption) (by (first | omega | (simp; done) | (simp; omega))))))
          have hU : Hid (UAt (((w1.alloc (.cells #[.slice ay ny cy, .slice at' nt ct] 62)).alloc (.cells #[.int .i64 0] 94)).alloc (.cells #[.int .i64 0] 97)) (w1.alloc (.cells #[.slice ay ny cy, .slice at' nt ct] 62)).heap.size 0) := Lib.hid ((UAtL.lay (w1.alloc (.cells #[.slice ay ny cy, .slice at' nt ct] 62)) 94).kept ((Below.refl _ _).alloc (Nat.le_refl _) _))
          have hV : Hid (UAt (((w1.alloc (.cells #[.slice ay ny cy, .slice at' nt ct] 62)).alloc (.cells #[.int .i64 0] 94)).alloc (.cells #[.int .i64 0] 97)) ((w1.alloc (.cells #[.slice ay ny cy, .slice at' nt ct] 62)).alloc (.cells #[.int .i64 0] 94)).heap.size 0) := Lib.hid (UAtL.lay _ 97)
          have hz4 : (((w1.alloc (.cells #[.slice ay ny cy, .slice at' nt ct] 62)).alloc (.cells #[.int .i64 0] 94)).alloc (.cells #[.int .i64 0] 97)).heap.size = w1.heap.size + 3 := by simp
          rw [show (w1.alloc (.cells #[.slice ay ny cy, .slice at' nt ct] 62)).heap.size = w1.heap.size + 1 by simp] at hU
          rw [show ((w1.alloc (.cells #[.slice ay ny cy, .slice at' nt ct] 62)).alloc (.cells #[.int .i64 0] 94)).heap.size = w1.heap.size + 1 + 1 by simp] at hV
          have hz4' := Nat.le_of_eq hz4.symm
          clear hz4
          generalize hW4 : (((w1.alloc (.cells #[.slice ay ny cy, .slice at' nt ct] 62)).alloc (.cells #[.int .i64 0] 94)).alloc (.cells #[.int .i64 0] 97)) = W4 at *
          go_wp2_with fail
          (try rw [hW4])
          clear hW4
          ((with_reducible refine (HL.out _ _).mono ?_); rintro e w5 ⟨rfl, rfl⟩)
          have HCn := Lib.hid (fun w' (h : UAt w' (w1.heap.size + 1) 0) => Count_any (w1.heap.size + 1) 0 w' h)
          go_wp2_with first
            | ((with_reducible refine (HS.out _ _).mono ?_); rintro e w6 ⟨rfl, rfl⟩)
            | ((with_reducible refine (HCn.out _ (hU.out.kept (by (repeat first | assumption | exact Below.refl _ _ | refine Below.drew ?_ | refine Below.drewN ?_ _ | refine Below.alloc ?_ (by (first | omega | (simp; done) | (simp; omega))) _ | refine Below.setCell ?_ (by (first | omega | (simp; done) | (simp; omega))) _ | refine Below.trans ?_ (Below.mono (by assumption) (by (first | omega | (simp; done) | (simp; omega)))))))).mono ?_); rintro e w7 ⟨rfl, rfl⟩)
            | fail
          go_ret
          exact ⟨rfl, by have := b4.out; (repeat first | assumption | exact Below.refl _ _ | refine Below.drew ?_ | refine Below.drewN ?_ _ | refine Below.alloc ?_ (by (first | omega | (simp; done) | (simp; omega))) _ | refine Below.setCell ?_ (by (first | omega | (simp; done) | (simp; omega))) _ | refine Below.trans ?_ (Below.mono (by assumption) (by (first | omega | (simp; done) | (simp; omega)))))⟩
    · rw [show decide (ny ≤ 100 ∧ nt ≤ 100) = false by simpa using hsx] at HSh
      clear hY hT hg
      go_enter Try.func11, Try.ntmps11
      go_wp2_with fail
      ((with_reducible refine (HAw.out _).mono ?_); rintro e w1 ⟨rfl, hb1⟩)
      have hz1 := hb1.size
      have Hb1 := Lib.hid hb1
      clear hb1 HAw
      go_wp2_with fail
      ((with_reducible refine (HSh.out _ _ (World.cell?_alloc_at _ _ _ _ rfl) (World.cell?_alloc_at _ _ _ _ rfl)).mono ?_); rintro e w3 ⟨rfl, rfl⟩)
      go_wp2
      go_ret
      exact ⟨rfl, by have := Hb1.out; (repeat first | assumption | exact Below.refl _ _ | refine Below.drew ?_ | refine Below.drewN ?_ _ | refine Below.alloc ?_ (by (first | omega | (simp; done) | (simp; omega))) _ | refine Below.setCell ?_ (by (first | omega | (simp; done) | (simp; omega))) _ | refine Below.trans ?_ (Below.mono (by assumption) (by (first | omega | (simp; done) | (simp; omega)))))⟩
end Go.Proofs.Ytdamenbpgkhiiaa
