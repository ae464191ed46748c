/-
  The walk of regattalaw07.MlpForward.
-/
import Derived.Test.YtdamenbpgkhiiaaRefV
import Derived.Test.YtdamenbpgkhiiaaFwdA
import Derived.Test.YtdamenbpgkhiiaaLawD
namespace Go.Proofs.Ytdamenbpgkhiiaa
open Go.RowKit
set_option linter.unusedVariables false
set_option linter.unusedSimpArgs false

theorem own_cellsF {w : World} {B size n : Nat} {E : TypeId} {v : Value} {xs : List Value} (h : w.ownsRow B E size v n xs) (hn : 0 < n) : ∃ g c, v = .slice (some ⟨g, 0, none⟩) n c ∧ B ≤ g ∧ g < w.heap.size ∧ ∀ j u, xs[j]? = some u → w.cell? ⟨g, j, none⟩ = some u := by
  rcases h.2 with ⟨e, e2⟩ | ⟨g, cap, cur, rfl, hb, hg, hc, hmx, hsz, ht⟩
  · omega
  · refine ⟨g, cap, rfl, hb, lt_of_block hg, fun j u hj => ?_⟩
    have := World.ownsRow.cells h (g := g) rfl j u hj
    rw [← this]
    simp only [Addr.add, Nat.zero_add]
    split <;> simp_all

theorem UAt.lay (w : World) (E : TypeId) : UAt (w.alloc (.cells #[.int .i64 0] E)) w.heap.size 0 := ⟨World.cell?_alloc_at _ _ _ _ rfl, by go_simp⟩

set_option maxHeartbeats 8000000 in
set_option maxRecDepth 100000 in
theorem fwd_walk (aS : Option Addr) (ns cS : Nat) (s : List Int) (ap : Option Addr) (np cp : Nat) (p : List Int) (ax : Option Addr) (nx cx : Nat) (x : List Int) (w : World) (hS : InRow w aS ns cS s) (hP : InRow w ap np cp p) (hX : InRow w ax nx cx x) :
    Calls Try.prog 10 #[.agg #[.slice aS ns cS, .slice ap np cp], .slice ax nx cx] w fun e w' => e = .returned (.bool true) ∧ Below w.heap.size w w' := by
  have hnsm : ns ≤ 9223372036854775807 := by have := hS.nc; have := hS.cm; omega
  have hnpm : np ≤ 9223372036854775807 := by have := hP.nc; have := hP.cm; omega
  have hnxm : nx ≤ 9223372036854775807 := by have := hX.nc; have := hX.cm; omega
  have HAw := Lib.hid (fun w => awake_any w)
  have HFew := Lib.hid (fun w' (hb : Below w.heap.size w w') => few_any aS ns cS s ap np cp w' (fun h => (hS.rd (by omega)).kept hb) hnsm hnpm)
  have HSh := Lib.hid (fun g w h1 => short1_any g nx cx ax w h1 hnxm)
  by_cases hfew : fewB s ns np = true
  · rw [hfew] at HFew
    unfold fewB at hfew
    rw [decide_eq_true_eq] at hfew
    have hnp400 : np ≤ 400 := hfew.2.1
    have HRC := Lib.hid (fun w' (hb : Below w.heap.size w w') => rCount_any aS ns cS s w' ((hS.rd (by omega)).kept hb))
    have HR := Lib.hid (fun w' (hb : Below w.heap.size w w') => right_any aS ns cS s ap np cp w' ((hS.rd (by omega)).kept hb) hnpm)
    by_cases hsx : nx ≤ 100
    · rw [show decide (nx ≤ 100) = true by simpa using hsx] at HSh
      by_cases hok : okS s
      · have er : rcnt s = (cntN s : Int) := by unfold rcnt; rw [if_pos hok]
        rw [er] at HRC
        have hcb := cnt_bd hok
        by_cases hpn : np = cntN s
        · have hr : rightB s np = true := by unfold rightB; rw [decide_eq_true_eq]; exact ⟨hok, hpn.symm⟩
          rw [hr] at HR
          have hsl := (hS.rd (by omega)).1
          have hpl := (hP.rd (by omega)).1
          have hxl := (hX.rd (by omega)).1
          obtain ⟨bs, os, rfl, hbs, hcs⟩ := (hS.rd (by omega)).at (i := 0) (by have := hok.1; omega)
          have hs0 := hok.szv (i := 0) (by have := hok.1; omega)
          rw [hs0.1, Nat.add_zero] at hcs
          have hsh0 : shp s np = 0 := by unfold shp; rw [if_pos hok, if_pos hpn]
          by_cases hx0 : nx = szN s 0
          · obtain ⟨m, hm⟩ : ∃ m, s.length = m + 1 := ⟨s.length - 1, by have := hok.1; omega⟩
            have hns : ns = m + 1 := by omega
            subst hns
            have hm15 : 1 ≤ m ∧ m ≤ 5 := by have := hok.1; have := hok.2.1; omega
            have hn : NetOk s p x m := ⟨hok, hm, by rw [hpl, hpn], by rw [hxl, hx0], hP.i, hX.i⟩
            have HF := Lib.hid (fun bu w' (hb : Below w.heap.size w w') (hbu : w.heap.size ≤ bu) (hu : UAt w' bu 0) => Forward_ok (some bu) 0 (some ⟨bs, os, none⟩) (m + 1) cS s ap np cp p ax nx cx x m w' hn ((hS.rd (by omega)).kept hb) ((hP.rd (by omega)).kept hb) ((hX.rd (by omega)).kept hb) hP.nc hP.cm hX.nil (fun y hy e => by
              have e1 : bu = y.block := by simpa [UC] using e
              obtain ⟨b', o', e', hb', _⟩ := (hP.rd (by omega)).2.2 (by rw [← hpl]; exact hn.p_pos)
              rw [hy] at e'; cases e'
              simp at e1; omega) (fun b e => by cases e; exact hu))
            have HNp := Lib.hid (fun w' (hb : Below w.heap.size w w') => nplain_any (some ⟨bs, os, none⟩) (m + 1) cS ap np cp p w' ((hP.rd (by omega)).kept hb) (by omega))
            have HPl := Lib.hid (fun w' (hb : Below w.heap.size w w') => plain_any ax nx cx x w' ((hX.rd (by omega)).kept hb) (by omega))
            have HVa := Lib.hid (fun bv B aP cP cx' ax' w' (hb : Below w.heap.size w w') (hbv : w.heap.size ≤ bv) (hp' : Rd w' .i64 aP np p) (hx' : Ow w' B 2 .i64 (.slice ax' (szN s 0) cx') x) (hu : UAt w' bv 0) (hB : bv < B) (hBw : B ≤ w'.heap.size) (haP : ∀ y, aP = some y → y.block ≠ bv) => rValues_any bv 0 bs os cS m s aP np cP p ax' cx' x B w' ((hS.rd (by omega)).kept hb) hok hm hp' hpn.symm (by omega) hx' (by rw [hxl, hx0]) hP.i hX.i hu hB hBw (by omega) haP)
            have Hlen := Lib.hid (val_len (s := s) (p := p) (x := x) hn.hx)
            have HO := Lib.hid hok
            have HM := Lib.hid hm
            have hq0 := hs0.2
            have hm1 := hm15.1
            have hm5 := hm15.2
            have hrpos : ¬ ((cntN s : Int) < 0) := by omega
            have hne' : ((nx : Int) != (szN s 0 : Int)) = false := by simpa using (by omega : (nx : Int) = szN s 0)
            have hxl' : x.length = szN s 0 := by rw [hxl, hx0]
            clear hn hS hP hX hfew hok er hsl hpl hxl hm hr hs0 hm15 hsh0
            rw [← hpn] at HRC
            clear hpn hcb hrpos
            subst hx0
            generalize hs00 : szN s 0 = q0 at *
            have Hs00 := Lib.hid hs00
            clear hs00
            have HxL := Lib.hid hxl'
            clear hxl'
            unfold uV at HF
            simp only [Option.map_some] at HF
            go_enter Try.func10, Try.ntmps10
            go_wp2_with first
              | ((with_reducible refine (HAw.out _).mono ?_); rintro e w1 ⟨rfl, hb1⟩; obtain ⟨hc1, hf1⟩ := bcell hb1; have hz1 := hb1.size; (try simp at hz1 hc1 hf1); have lt1 : w.heap.size < w1.heap.size := (by omega))
              | ((with_reducible refine (HFew.out _ (by (repeat first | assumption | exact Below.refl _ _ | refine Below.drew ?_ | refine Below.drewN ?_ _ | refine Below.alloc ?_ (by (first | omega | (simp; done) | (simp; omega))) _ | refine Below.setCell ?_ (by (first | omega | (simp; done) | (simp; omega))) _ | refine Below.trans ?_ (Below.mono (by assumption) (by (first | omega | (simp; done) | (simp; omega))))))).mono ?_); rintro e w2 ⟨rfl, hb2⟩; obtain ⟨hc2, hf2⟩ := bcell hb2; have hz2 := hb2.size; (try simp at hz2 hc2 hf2); have lt2 : w.heap.size < w2.heap.size := (by omega))
              | fail
            have d0 : w2.cell? ⟨w.heap.size, 0, none⟩ = some (.slice (some ⟨bs, os, none⟩) (m + 1) cS) := by rw [hc2 _ _ (by omega), hc1 _ _ (by omega)]; go_simp
            have d1 : w2.cell? ⟨w.heap.size, 1, none⟩ = some (.slice ap np cp) := by rw [hc2 _ _ (by omega), hc1 _ _ (by omega)]; go_simp
            have ds : w2.cell? ⟨bs, os, none⟩ = some (.int .i64 q0) := by rw [hc2 _ _ (by omega), hc1 _ _ (by omega)]; go_simp
            have Hb2 : Hid (Below w.heap.size w w2) := Lib.hid (by (repeat first | assumption | exact Below.refl _ _ | refine Below.drew ?_ | refine Below.drewN ?_ _ | refine Below.alloc ?_ (by (first | omega | (simp; done) | (simp; omega))) _ | refine Below.setCell ?_ (by (first | omega | (simp; done) | (simp; omega))) _ | refine Below.trans ?_ (Below.mono (by assumption) (by (first | omega | (simp; done) | (simp; omega))))))
            clear hb1 hb2 hc1 hc2 hf1 hf2
            ((with_reducible refine (HSh.out _ _ (World.cell?_alloc_at _ _ _ _ rfl)).mono ?_); rintro e w3 ⟨rfl, rfl⟩)
            have b4 : Hid (Below w.heap.size w (((w2.alloc (.cells #[.slice ax q0 cx] 62)).alloc (.cells #[.int .i64 0] 94)).alloc (.cells #[.int .i64 0] 97))) := Lib.hid (by have := Hb2.out; (repeat first | assumption | exact Below.refl _ _ | refine Below.drew ?_ | refine Below.drewN ?_ _ | refine Below.alloc ?_ (by (first | omega | (simp; done) | (simp; omega))) _ | refine Below.setCell ?_ (by (first | omega | (simp; done) | (simp; omega))) _ | refine Below.trans ?_ (Below.mono (by assumption) (by (first | omega | (simp; done) | (simp; omega))))))
            have lt3 : w.heap.size < w2.heap.size := by have := Hb2.out.size; omega
            have hbs2 : bs < w2.heap.size := by omega
            have g0 : (((w2.alloc (.cells #[.slice ax q0 cx] 62)).alloc (.cells #[.int .i64 0] 94)).alloc (.cells #[.int .i64 0] 97)).cell? ⟨w.heap.size, 0, none⟩ = some (.slice (some ⟨bs, os, none⟩) (m + 1) cS) := by rw [World.cell?_alloc_past _ _ _ (by simp; omega), World.cell?_alloc_past _ _ _ (by simp; omega), World.cell?_alloc_past _ _ _ (by omega)]; exact d0
            have g1 : (((w2.alloc (.cells #[.slice ax q0 cx] 62)).alloc (.cells #[.int .i64 0] 94)).alloc (.cells #[.int .i64 0] 97)).cell? ⟨w.heap.size, 1, none⟩ = some (.slice ap np cp) := by rw [World.cell?_alloc_past _ _ _ (by simp; omega), World.cell?_alloc_past _ _ _ (by simp; omega), World.cell?_alloc_past _ _ _ (by omega)]; exact d1
            have gs : (((w2.alloc (.cells #[.slice ax q0 cx] 62)).alloc (.cells #[.int .i64 0] 94)).alloc (.cells #[.int .i64 0] 97)).cell? ⟨bs, os, none⟩ = some (.int .i64 q0) := by rw [World.cell?_alloc_past _ _ _ (by simp; omega), World.cell?_alloc_past _ _ _ (by simp; omega), World.cell?_alloc_past _ _ _ (by omega)]; exact ds
            have hU : Hid (UAt (((w2.alloc (.cells #[.slice ax q0 cx] 62)).alloc (.cells #[.int .i64 0] 94)).alloc (.cells #[.int .i64 0] 97)) (w2.alloc (.cells #[.slice ax q0 cx] 62)).heap.size 0) := Lib.hid ((UAt.lay (w2.alloc (.cells #[.slice ax q0 cx] 62)) 94).kept ((Below.refl _ _).alloc (Nat.le_refl _) _))
            have hV : Hid (UAt (((w2.alloc (.cells #[.slice ax q0 cx] 62)).alloc (.cells #[.int .i64 0] 94)).alloc (.cells #[.int .i64 0] 97)) ((w2.alloc (.cells #[.slice ax q0 cx] 62)).alloc (.cells #[.int .i64 0] 94)).heap.size 0) := Lib.hid (UAt.lay _ 97)
            have hW4z : (((w2.alloc (.cells #[.slice ax q0 cx] 62)).alloc (.cells #[.int .i64 0] 94)).alloc (.cells #[.int .i64 0] 97)).heap.size = w2.heap.size + 3 := by simp
            rw [show (w2.alloc (.cells #[.slice ax q0 cx] 62)).heap.size = w2.heap.size + 1 by simp] at hU
            rw [show ((w2.alloc (.cells #[.slice ax q0 cx] 62)).alloc (.cells #[.int .i64 0] 94)).heap.size = w2.heap.size + 1 + 1 by simp] at hV
            generalize hW4 : (((w2.alloc (.cells #[.slice ax q0 cx] 62)).alloc (.cells #[.int .i64 0] 94)).alloc (.cells #[.int .i64 0] 97)) = W4 at *
            go_wp2_with fail
            ((with_reducible refine (HF.out (w2.heap.size + 1) W4 b4.out (by omega) hU.out).mono ?_); rintro e w5 ⟨vL, xsL, rfl, hrowL, hosL, hc5, hu5⟩)
            obtain ⟨gL, cL, rfl, hgLB, hgL, hcL⟩ := own_cellsF hrowL (by omega)
            have z5 := hc5.size
            have nu : ∀ k, k ≠ w2.heap.size + 1 → ¬ UC (some (w2.heap.size + 1)) k := fun k h e => h (by simpa [UC] using e.symm)
            have f0 : w5.cell? ⟨w.heap.size, 0, none⟩ = some (.slice (some ⟨bs, os, none⟩) (m + 1) cS) := (hc5.cell (by omega) (nu _ (by omega))).trans g0
            have f1 : w5.cell? ⟨w.heap.size, 1, none⟩ = some (.slice ap np cp) := (hc5.cell (by omega) (nu _ (by omega))).trans g1
            have fs : w5.cell? ⟨bs, os, none⟩ = some (.int .i64 q0) := (hc5.cell (by omega) (nu _ (by omega))).trans gs
            have hge : ∀ k, UC (some (w2.heap.size + 1)) k → w.heap.size ≤ k := fun k hk => by
              have e : w2.heap.size + 1 = k := by simpa [UC] using hk
              omega
            have Hb5 : Hid (Below w.heap.size w w5) := Lib.hid (b4.out.trans (hc5.below (by omega) hge))
            have hU5 : Hid (UAt w5 (w2.heap.size + 1) (cntV 0 s p x m)) := Lib.hid (hu5 _ rfl)
            have hV5 : Hid (UAt w5 (w2.heap.size + 1 + 1) 0) := Lib.hid (hV.out.chg hc5 (nu _ (by omega)))
            have HosL := Lib.hid hosL
            have HcL := Lib.hid hcL
            clear hosL hcL hc5 hu5 hrowL nu g0 g1 gs d0 d1 ds hU hV hW4 HF HFew HSh HAw
            go_wp2_with fail
            (with_reducible refine (HRC.out _ Hb5.out).mono ?_)
            rintro e w6 ⟨rfl, ⟨nd, rfl⟩⟩
            go_wp2_with fail
            (with_reducible refine (HR.out _ (by have := Hb5.out; (repeat first | assumption | exact Below.refl _ _ | refine Below.drew ?_ | refine Below.drewN ?_ _ | refine Below.alloc ?_ (by (first | omega | (simp; done) | (simp; omega))) _ | refine Below.setCell ?_ (by (first | omega | (simp; done) | (simp; omega))) _ | refine Below.trans ?_ (Below.mono (by assumption) (by (first | omega | (simp; done) | (simp; omega))))))).mono ?_)
            rintro e w7 ⟨rfl, hb7⟩
            have z7 := hb7.size
            (try simp at z7)
            have hb57 : Hid (Below w5.heap.size w5 w7) := Lib.hid (by (repeat first | assumption | exact Below.refl _ _ | refine Below.drew ?_ | refine Below.drewN ?_ _ | refine Below.alloc ?_ (by (first | omega | (simp; done) | (simp; omega))) _ | refine Below.setCell ?_ (by (first | omega | (simp; done) | (simp; omega))) _ | refine Below.trans ?_ (Below.mono (by assumption) (by (first | omega | (simp; done) | (simp; omega))))))
            have f0 : w7.cell? ⟨w.heap.size, 0, none⟩ = some (.slice (some ⟨bs, os, none⟩) (m + 1) cS) := (hb57.out.cell (p := ⟨w.heap.size, 0, none⟩) (by show w.heap.size < _; omega)).trans f0
            have f1 : w7.cell? ⟨w.heap.size, 1, none⟩ = some (.slice ap np cp) := (hb57.out.cell (p := ⟨w.heap.size, 1, none⟩) (by show w.heap.size < _; omega)).trans f1
            have fs : w7.cell? ⟨bs, os, none⟩ = some (.int .i64 q0) := (hb57.out.cell (p := ⟨bs, os, none⟩) (by show bs < _; omega)).trans fs
            have Hb7 : Hid (Below w.heap.size w w7) := Lib.hid (Hb5.out.trans (hb57.out.mono (by omega)))
            clear hb7
            go_wp2_with fail
            (with_reducible refine (HNp.out _ Hb7.out).mono ?_)
            rintro e w8 ⟨aP, cP, rfl, hrP, haP, hb8⟩
            have z8 := hb8.size
            have Hb8 : Hid (Below w.heap.size w w8) := Lib.hid (Hb7.out.trans (hb8.mono (by omega)))
            go_wp2_with fail
            (with_reducible refine (HPl.out _ Hb8.out).mono ?_)
            rintro e w9 ⟨vX, rfl, hoX, hb9⟩
            obtain ⟨aX, cX, rfl, _, _⟩ := ownsRow_form hoX
            rw [HxL.out] at hoX
            have z9 := hb9.size
            have Hb9 : Hid (Below w.heap.size w w9) := Lib.hid (Hb8.out.trans (hb9.mono (by omega)))
            have hb59 : Hid (Below w5.heap.size w5 w9) := Lib.hid ((hb57.out.trans (hb8.mono (by omega))).trans (hb9.mono (by omega)))
            have HVb := Lib.hid (HVa.out (w2.heap.size + 1 + 1) (w2.heap.size + 1 + 1 + 1) aP cP cX aX w9 Hb9.out (by omega) (hrP.kept hb9) (Ow.mono hoX (by omega)) (hV5.out.kept hb59.out) (by omega) (by omega) (fun y hy => by have := haP y hy; omega))
            rw [← HxL.out] at HVb
            clear hrP haP hb8 hoX hb9 HVa
            go_wp2_with fail
            (with_reducible refine (HVb.out).mono ?_)
            rintro e w10 ⟨vW, xsW, rfl, hrowW, hosW, hc10, hv10⟩
            obtain ⟨gW, cW, rfl, hgWB, hgW, hcW⟩ := own_cellsF hrowW (by omega)
            have z10 := hc10.size
            have nv : ∀ k, k = w2.heap.size + 1 + 1 → w.heap.size ≤ k := by rintro k rfl; omega
            have Hb10 : Hid (Below w.heap.size w w10) := Lib.hid (Hb9.out.trans (hc10.below (by omega) nv))
            have hU10 : Hid (UAt w10 (w2.heap.size + 1) (cntV 0 s p x m)) := Lib.hid ((hU5.out.kept hb59.out).chg hc10 (by omega))
            have hV10 := Lib.hid hv10
            have HosL10 : Hid (OwS w10 W4.heap.size 39 .i64 xsL (vals s p x (m + 1))) := Lib.hid ((HosL.out.kept hb59.out).chg hc10 (by rintro k rfl; omega))
            have HosW10 := Lib.hid hosW
            have HcW10 := Lib.hid hcW
            have HcL10 : Hid (∀ j u, xsL[j]? = some u → w10.cell? ⟨gL, j, none⟩ = some u) := Lib.hid (fun j u h => (hc10.cell (by omega) (by omega)).trans ((hb59.out.cell (p := ⟨gL, j, none⟩) (by show gL < _; omega)).trans (HcL.out j u h)))
            have HCn := Lib.hid (fun w' (h : UAt w' (w2.heap.size + 1) (cntV 0 s p x m)) => Count_any (w2.heap.size + 1) (cntV 0 s p x m) w' h)
            clear hosW hcW hc10 hv10 hU5 hV5 HosL HcL hrowW HVb HPl HNp HR HRC hb57 Hb5 Hb7 Hb8 f0 f1 fs
            obtain ⟨v0, vf⟩ := hV10.out
            go_wp2
            go_region_held3 (fun w' => w'.cell? ⟨w2.heap.size + 1 + 1, 0, none⟩ = some (.int .i64 (cntV 0 s p x m)))
              (first | assumption | go_keep)
              (first
                | (go_at_call 40; refine (HCn.out _ (hU10.out.kept (by (repeat first | assumption | exact Below.refl _ _ | refine Below.drew ?_ | refine Below.drewN ?_ _ | refine Below.alloc ?_ (by (first | omega | (simp; done) | (simp; omega))) _ | refine Below.setCell ?_ (by (first | omega | (simp; done) | (simp; omega))) _ | refine Below.trans ?_ (Below.mono (by assumption) (by (first | omega | (simp; done) | (simp; omega)))))))).mono ?_; rintro e wc ⟨rfl, rfl⟩))
            all_goals
              go_wp2
              clear v0 vf
              go_loopw [103] (fun j wi => ∃ i : Nat, i ≤ m + 1 ∧ j = .int .i64 i ∧ Hid (Below w10.heap.size w10 wi)) (fun j _ => m + 1 - (intOf j).toNat)
              case atStart => exact ⟨0, Nat.zero_le _, rfl, Lib.hid (by (repeat first | assumption | exact Below.refl _ _ | refine Below.drew ?_ | refine Below.drewN ?_ _ | refine Below.alloc ?_ (by (first | omega | (simp; done) | (simp; omega))) _ | refine Below.setCell ?_ (by (first | omega | (simp; done) | (simp; omega))) _ | refine Below.trans ?_ (Below.mono (by assumption) (by (first | omega | (simp; done) | (simp; omega))))))⟩
              case round =>
                rename World => wi
                obtain ⟨i, hi, rfl, hbi⟩ := hrel
                have hzi := hbi.out.size
                by_cases hlt : i < m + 1
                · have hval : (vals s p x (m + 1))[i]?.getD [] = val s p x i := by simp [vals, hlt]
                  have hq := HO.out.szv (i := i) (by rw [HM.out]; omega)
                  have hyl := Hlen.out i
                  have hy64 : (val s p x i).length ≤ 64 := by omega
                  obtain ⟨aA, cA, hzA, hrA, hbA⟩ := HosL10.out.rd (i := i) (n := (val s p x i).length) (by simp [vals]; omega) (by rw [hval]) (by omega)
                  obtain ⟨aB, cB, hzB, hrB, hbB⟩ := HosW10.out.rd (i := i) (n := (val s p x i).length) (by simp [vals]; omega) (by rw [hval]) (by omega)
                  rw [hval] at hrA hrB
                  have l0 : wi.cell? ⟨gL, i, none⟩ = some (.slice aA (val s p x i).length cA) := (hbi.out.cell (p := ⟨gL, i, none⟩) (by show gL < _; omega)).trans (HcL10.out i _ hzA)
                  have l1 : wi.cell? ⟨gW, i, none⟩ = some (.slice aB (val s p x i).length cB) := (hbi.out.cell (p := ⟨gW, i, none⟩) (by show gW < _; omega)).trans (HcW10.out i _ hzB)
                  have HPq := Lib.hid (fun w' (hb : Below wi.heap.size wi w') => plain_any aA (val s p x i).length cA (val s p x i) w' ((hrA.kept hbi.out).kept hb) (by omega))
                  have HRB := Lib.hid (hrB.kept hbi.out)
                  have hi0 : (0 : Int) ≤ (i : Int) := by omega
                  have hi1 : (i : Int) < (m : Int) + 1 := by omega
                  have hgWi : gW < wi.heap.size := by omega
                  clear hval hq hyl hzA hrA hbA hzB hrB hbB
                  generalize val s p x i = y at *
                  go_wp2
                  go_region_held3 (fun w' => w'.cell? ⟨gW, i, none⟩ = some (.slice aB y.length cB))
                    (first | assumption | go_keep)
                    (first
                      | (go_at_call 42; refine (HPq.out _ (by (repeat first | assumption | exact Below.refl _ _ | refine Below.drew ?_ | refine Below.drewN ?_ _ | refine Below.alloc ?_ (by (first | omega | (simp; done) | (simp; omega))) _ | refine Below.setCell ?_ (by (first | omega | (simp; done) | (simp; omega))) _ | refine Below.trans ?_ (Below.mono (by assumption) (by (first | omega | (simp; done) | (simp; omega))))))).mono ?_; rintro e w12 ⟨vQ, rfl, hoQ, hb12⟩; have z12 := hb12.size; (try simp at z12); have s12 : w12.cell? ⟨gW, i, none⟩ = some (.slice aB y.length cB) := (hb12.cell (p := ⟨gW, i, none⟩) (by first | exact hgWi | (show gW < _; omega) | (simp; omega))).trans (by go_simp); obtain ⟨aQ, cQ, rfl, _, _⟩ := ownsRow_form hoQ)
                      | (go_at_call 43; refine (rSame_any aQ aB y.length cQ cB y _ ((Ow.rd hoQ (by omega)).kept (by (repeat first | assumption | exact Below.refl _ _ | refine Below.drew ?_ | refine Below.drewN ?_ _ | refine Below.alloc ?_ (by (first | omega | (simp; done) | (simp; omega))) _ | refine Below.setCell ?_ (by (first | omega | (simp; done) | (simp; omega))) _ | refine Below.trans ?_ (Below.mono (by assumption) (by (first | omega | (simp; done) | (simp; omega))))))) (HRB.out.kept (by (repeat first | assumption | exact Below.refl _ _ | refine Below.drew ?_ | refine Below.drewN ?_ _ | refine Below.alloc ?_ (by (first | omega | (simp; done) | (simp; omega))) _ | refine Below.setCell ?_ (by (first | omega | (simp; done) | (simp; omega))) _ | refine Below.trans ?_ (Below.mono (by assumption) (by (first | omega | (simp; done) | (simp; omega)))))))).mono ?_; rintro e w13 ⟨rfl, ⟨nd3, rfl⟩⟩))
                  all_goals
                    have Hb13 : Hid (Below w10.heap.size w10 (w12.drewN nd3)) := Lib.hid (hbi.out.trans (by (repeat first | assumption | exact Below.refl _ _ | refine Below.drew ?_ | refine Below.drewN ?_ _ | refine Below.alloc ?_ (by (first | omega | (simp; done) | (simp; omega))) _ | refine Below.setCell ?_ (by (first | omega | (simp; done) | (simp; omega))) _ | refine Below.trans ?_ (Below.mono (by assumption) (by (first | omega | (simp; done) | (simp; omega)))))))
                    go_wp2
                    go_roundw
                    case rel => exact ⟨i + 1, by omega, by go_num, Hb13.out⟩
                    case measure => simp [intOf]; omega
                · obtain rfl : i = m + 1 := by omega
                  go_wp2
                  go_ret
                  exact ⟨rfl, Hb10.out.trans (hbi.out.mono (by omega))⟩
          · have HF := Lib.hid (fun u w' (hb : Below w.heap.size w w') => Forward_long u (some ⟨bs, os, none⟩) ns cS s ap np cp ax nx cx w' ((hS.rd (by omega)).kept hb) (by omega) hsh0 hok hx0)
            have hne' : ((nx : Int) != (szN s 0 : Int)) = true := by simpa using (by omega : ¬ (nx : Int) = szN s 0)
            have hne2 : ((nx : Int) == (szN s 0 : Int)) = false := by simpa using (by omega : ¬ (nx : Int) = szN s 0)
            have hnsz : (0 : Int) < (ns : Int) := by have := hok.1; omega
            have hnsz2 : 0 < ns := by omega
            have hcn : ¬ ((cntN s : Int) < 0) := by omega
            clear hS hP hX hfew hok er hpn hr hcb hsl hpl hxl hs0 hsh0 hx0
            generalize cntN s = r at *
            generalize szN s 0 = q0 at *
            go_enter Try.func10, Try.ntmps10
            go_wp2_with first
              | ((with_reducible refine (HAw.out _).mono ?_); rintro e w1 ⟨rfl, hb1⟩; obtain ⟨hc1, hf1⟩ := bcell hb1; have hz1 := hb1.size; (try simp at hz1 hc1 hf1); have lt1 : w.heap.size < w1.heap.size := (by omega))
              | ((with_reducible refine (HFew.out _ (by (repeat first | assumption | exact Below.refl _ _ | refine Below.drew ?_ | refine Below.drewN ?_ _ | refine Below.alloc ?_ (by (first | omega | (simp; done) | (simp; omega))) _ | refine Below.setCell ?_ (by (first | omega | (simp; done) | (simp; omega))) _ | refine Below.trans ?_ (Below.mono (by assumption) (by (first | omega | (simp; done) | (simp; omega))))))).mono ?_); rintro e w2 ⟨rfl, hb2⟩; obtain ⟨hc2, hf2⟩ := bcell hb2; have hz2 := hb2.size; (try simp at hz2 hc2 hf2); have lt2 : w.heap.size < w2.heap.size := (by omega))
              | fail
            have d0 : w2.cell? ⟨w.heap.size, 0, none⟩ = some (.slice (some ⟨bs, os, none⟩) ns cS) := by rw [hc2 _ _ (by omega), hc1 _ _ (by omega)]; go_simp
            have d1 : w2.cell? ⟨w.heap.size, 1, none⟩ = some (.slice ap np cp) := by rw [hc2 _ _ (by omega), hc1 _ _ (by omega)]; go_simp
            have ds : w2.cell? ⟨bs, os, none⟩ = some (.int .i64 q0) := by rw [hc2 _ _ (by omega), hc1 _ _ (by omega)]; go_simp
            have Hb2 : Hid (Below w.heap.size w w2) := Lib.hid (by (repeat first | assumption | exact Below.refl _ _ | refine Below.drew ?_ | refine Below.drewN ?_ _ | refine Below.alloc ?_ (by (first | omega | (simp; done) | (simp; omega))) _ | refine Below.setCell ?_ (by (first | omega | (simp; done) | (simp; omega))) _ | refine Below.trans ?_ (Below.mono (by assumption) (by (first | omega | (simp; done) | (simp; omega))))))
            clear hb1 hb2 hc1 hc2 hf1 hf2
            ((with_reducible refine (HSh.out _ _ (World.cell?_alloc_at _ _ _ _ rfl)).mono ?_); rintro e w3 ⟨rfl, rfl⟩)
            have hbs2 : bs < w2.heap.size := by have := Hb2.out.size; omega
            have b4 : Hid (Below w.heap.size w (((w2.alloc (.cells #[.slice ax nx cx] 62)).alloc (.cells #[.int .i64 0] 94)).alloc (.cells #[.int .i64 0] 97))) := Lib.hid (by have := Hb2.out; (repeat first | assumption | exact Below.refl _ _ | refine Below.drew ?_ | refine Below.drewN ?_ _ | refine Below.alloc ?_ (by (first | omega | (simp; done) | (simp; omega))) _ | refine Below.setCell ?_ (by (first | omega | (simp; done) | (simp; omega))) _ | refine Below.trans ?_ (Below.mono (by assumption) (by (first | omega | (simp; done) | (simp; omega))))))
            have lt3 : w.heap.size < w2.heap.size := by have := Hb2.out.size; omega
            have g0 : (((w2.alloc (.cells #[.slice ax nx cx] 62)).alloc (.cells #[.int .i64 0] 94)).alloc (.cells #[.int .i64 0] 97)).cell? ⟨w.heap.size, 0, none⟩ = some (.slice (some ⟨bs, os, none⟩) ns cS) := by rw [World.cell?_alloc_past _ _ _ (by simp; omega), World.cell?_alloc_past _ _ _ (by simp; omega), World.cell?_alloc_past _ _ _ (by omega)]; exact d0
            have g1 : (((w2.alloc (.cells #[.slice ax nx cx] 62)).alloc (.cells #[.int .i64 0] 94)).alloc (.cells #[.int .i64 0] 97)).cell? ⟨w.heap.size, 1, none⟩ = some (.slice ap np cp) := by rw [World.cell?_alloc_past _ _ _ (by simp; omega), World.cell?_alloc_past _ _ _ (by simp; omega), World.cell?_alloc_past _ _ _ (by omega)]; exact d1
            have gs : (((w2.alloc (.cells #[.slice ax nx cx] 62)).alloc (.cells #[.int .i64 0] 94)).alloc (.cells #[.int .i64 0] 97)).cell? ⟨bs, os, none⟩ = some (.int .i64 q0) := by rw [World.cell?_alloc_past _ _ _ (by simp; omega), World.cell?_alloc_past _ _ _ (by simp; omega), World.cell?_alloc_past _ _ _ (by omega)]; exact ds
            have hU : Hid (UAt (((w2.alloc (.cells #[.slice ax nx cx] 62)).alloc (.cells #[.int .i64 0] 94)).alloc (.cells #[.int .i64 0] 97)) (w2.alloc (.cells #[.slice ax nx cx] 62)).heap.size 0) := Lib.hid ((UAt.lay (w2.alloc (.cells #[.slice ax nx cx] 62)) 94).kept ((Below.refl _ _).alloc (Nat.le_refl _) _))
            have hW4z : (((w2.alloc (.cells #[.slice ax nx cx] 62)).alloc (.cells #[.int .i64 0] 94)).alloc (.cells #[.int .i64 0] 97)).heap.size = w2.heap.size + 3 := by simp
            rw [show (w2.alloc (.cells #[.slice ax nx cx] 62)).heap.size = w2.heap.size + 1 by simp] at hU
            generalize hW4 : (((w2.alloc (.cells #[.slice ax nx cx] 62)).alloc (.cells #[.int .i64 0] 94)).alloc (.cells #[.int .i64 0] 97)) = W4 at *
            go_wp2_with fail
            ((with_reducible refine (HF.out _ W4 b4.out).mono ?_); rintro e w5 ⟨rfl, rfl⟩)
            have HCn := Lib.hid (fun w' (h : UAt w' (w2.heap.size + 1) 0) => Count_any (w2.heap.size + 1) 0 w' h)
            clear d0 d1 ds hW4 HF HFew HSh HAw
            go_wp2_with fail
            (with_reducible refine (HRC.out _ b4.out).mono ?_)
            rintro e w6 ⟨rfl, ⟨nd, rfl⟩⟩
            go_wp2_with fail
            (with_reducible refine (HR.out _ (by have := b4.out; (repeat first | assumption | exact Below.refl _ _ | refine Below.drew ?_ | refine Below.drewN ?_ _ | refine Below.alloc ?_ (by (first | omega | (simp; done) | (simp; omega))) _ | refine Below.setCell ?_ (by (first | omega | (simp; done) | (simp; omega))) _ | refine Below.trans ?_ (Below.mono (by assumption) (by (first | omega | (simp; done) | (simp; omega))))))).mono ?_)
            rintro e w7 ⟨rfl, hb7⟩
            have z7 := hb7.size
            (try simp at z7)
            have hb57 : Hid (Below W4.heap.size W4 w7) := Lib.hid (by (repeat first | assumption | exact Below.refl _ _ | refine Below.drew ?_ | refine Below.drewN ?_ _ | refine Below.alloc ?_ (by (first | omega | (simp; done) | (simp; omega))) _ | refine Below.setCell ?_ (by (first | omega | (simp; done) | (simp; omega))) _ | refine Below.trans ?_ (Below.mono (by assumption) (by (first | omega | (simp; done) | (simp; omega))))))
            have f0 : w7.cell? ⟨w.heap.size, 0, none⟩ = some (.slice (some ⟨bs, os, none⟩) ns cS) := (hb57.out.cell (p := ⟨w.heap.size, 0, none⟩) (by show w.heap.size < _; omega)).trans g0
            have fs : w7.cell? ⟨bs, os, none⟩ = some (.int .i64 q0) := (hb57.out.cell (p := ⟨bs, os, none⟩) (by show bs < _; omega)).trans gs
            have hU7 : Hid (UAt w7 (w2.heap.size + 1) 0) := Lib.hid (hU.out.kept hb57.out)
            have Hb7 : Hid (Below w.heap.size w w7) := Lib.hid (by have := b4.out; (repeat first | assumption | exact Below.refl _ _ | refine Below.drew ?_ | refine Below.drewN ?_ _ | refine Below.alloc ?_ (by (first | omega | (simp; done) | (simp; omega))) _ | refine Below.setCell ?_ (by (first | omega | (simp; done) | (simp; omega))) _ | refine Below.trans ?_ (Below.mono (by assumption) (by (first | omega | (simp; done) | (simp; omega))))))
            clear hb7 g0 g1 gs
            go_wp2_with first
              | ((with_reducible refine (HCn.out _ (hU7.out.kept (by (repeat first | assumption | exact Below.refl _ _ | refine Below.drew ?_ | refine Below.drewN ?_ _ | refine Below.alloc ?_ (by (first | omega | (simp; done) | (simp; omega))) _ | refine Below.setCell ?_ (by (first | omega | (simp; done) | (simp; omega))) _ | refine Below.trans ?_ (Below.mono (by assumption) (by (first | omega | (simp; done) | (simp; omega)))))))).mono ?_); rintro e w8 ⟨rfl, rfl⟩)
              | fail
            go_ret
            exact ⟨rfl, by have := Hb7.out; (repeat first | assumption | exact Below.refl _ _ | refine Below.drew ?_ | refine Below.drewN ?_ _ | refine Below.alloc ?_ (by (first | omega | (simp; done) | (simp; omega))) _ | refine Below.setCell ?_ (by (first | omega | (simp; done) | (simp; omega))) _ | refine Below.trans ?_ (Below.mono (by assumption) (by (first | omega | (simp; done) | (simp; omega)))))⟩
        · have hr : rightB s np = false := by unfold rightB; rw [decide_eq_false_iff_not]; exact fun h => hpn h.2.symm
          rw [hr] at HR
          have HF := Lib.hid (fun u w' (hb : Below w.heap.size w w') => Forward_bad u aS ns cS s ap np cp ax nx cx w' 40 ((hS.rd (by omega)).kept hb) (by omega) (by unfold shp; rw [if_pos hok, if_neg hpn]) (by omega))
          have hcn : ¬ ((cntN s : Int) < 0) := by omega
          clear hS hP hX hfew hok er hpn hr hcb
          generalize cntN s = r at *
          go_enter Try.func10, Try.ntmps10
          go_wp2_with first
            | ((with_reducible refine (HAw.out _).mono ?_); rintro e w1 ⟨rfl, hb1⟩; obtain ⟨hc1, hf1⟩ := bcell hb1; have hz1 := hb1.size; (try simp at hz1 hc1 hf1); have lt1 : w.heap.size < w1.heap.size := (by omega))
            | ((with_reducible refine (HFew.out _ (by (repeat first | assumption | exact Below.refl _ _ | refine Below.drew ?_ | refine Below.drewN ?_ _ | refine Below.alloc ?_ (by (first | omega | (simp; done) | (simp; omega))) _ | refine Below.setCell ?_ (by (first | omega | (simp; done) | (simp; omega))) _ | refine Below.trans ?_ (Below.mono (by assumption) (by (first | omega | (simp; done) | (simp; omega))))))).mono ?_); rintro e w2 ⟨rfl, hb2⟩; obtain ⟨hc2, hf2⟩ := bcell hb2; have hz2 := hb2.size; (try simp at hz2 hc2 hf2); have lt2 : w.heap.size < w2.heap.size := (by omega))
            | fail
          have d0 : w2.cell? ⟨w.heap.size, 0, none⟩ = some (.slice aS ns cS) := by rw [hc2 _ _ (by omega), hc1 _ _ (by omega)]; go_simp
          have d1 : w2.cell? ⟨w.heap.size, 1, none⟩ = some (.slice ap np cp) := by rw [hc2 _ _ (by omega), hc1 _ _ (by omega)]; go_simp
          have Hb2 : Hid (Below w.heap.size w w2) := Lib.hid (by (repeat first | assumption | exact Below.refl _ _ | refine Below.drew ?_ | refine Below.drewN ?_ _ | refine Below.alloc ?_ (by (first | omega | (simp; done) | (simp; omega))) _ | refine Below.setCell ?_ (by (first | omega | (simp; done) | (simp; omega))) _ | refine Below.trans ?_ (Below.mono (by assumption) (by (first | omega | (simp; done) | (simp; omega))))))
          clear hb1 hb2 hc1 hc2 hf1 hf2
          ((with_reducible refine (HSh.out _ _ (World.cell?_alloc_at _ _ _ _ rfl)).mono ?_); rintro e w3 ⟨rfl, rfl⟩)
          have b4 : Hid (Below w.heap.size w (((w2.alloc (.cells #[.slice ax nx cx] 62)).alloc (.cells #[.int .i64 0] 94)).alloc (.cells #[.int .i64 0] 97))) := Lib.hid (by have := Hb2.out; (repeat first | assumption | exact Below.refl _ _ | refine Below.drew ?_ | refine Below.drewN ?_ _ | refine Below.alloc ?_ (by (first | omega | (simp; done) | (simp; omega))) _ | refine Below.setCell ?_ (by (first | omega | (simp; done) | (simp; omega))) _ | refine Below.trans ?_ (Below.mono (by assumption) (by (first | omega | (simp; done) | (simp; omega))))))
          have lt3 : w.heap.size < w2.heap.size := by have := Hb2.out.size; omega
          have g0 : (((w2.alloc (.cells #[.slice ax nx cx] 62)).alloc (.cells #[.int .i64 0] 94)).alloc (.cells #[.int .i64 0] 97)).cell? ⟨w.heap.size, 0, none⟩ = some (.slice aS ns cS) := by rw [World.cell?_alloc_past _ _ _ (by simp; omega), World.cell?_alloc_past _ _ _ (by simp; omega), World.cell?_alloc_past _ _ _ (by omega)]; exact d0
          have g1 : (((w2.alloc (.cells #[.slice ax nx cx] 62)).alloc (.cells #[.int .i64 0] 94)).alloc (.cells #[.int .i64 0] 97)).cell? ⟨w.heap.size, 1, none⟩ = some (.slice ap np cp) := by rw [World.cell?_alloc_past _ _ _ (by simp; omega), World.cell?_alloc_past _ _ _ (by simp; omega), World.cell?_alloc_past _ _ _ (by omega)]; exact d1
          have hU : Hid (UAt (((w2.alloc (.cells #[.slice ax nx cx] 62)).alloc (.cells #[.int .i64 0] 94)).alloc (.cells #[.int .i64 0] 97)) (w2.alloc (.cells #[.slice ax nx cx] 62)).heap.size 0) := Lib.hid ((UAt.lay (w2.alloc (.cells #[.slice ax nx cx] 62)) 94).kept ((Below.refl _ _).alloc (Nat.le_refl _) _))
          have hW4z : (((w2.alloc (.cells #[.slice ax nx cx] 62)).alloc (.cells #[.int .i64 0] 94)).alloc (.cells #[.int .i64 0] 97)).heap.size = w2.heap.size + 3 := by simp
          rw [show (w2.alloc (.cells #[.slice ax nx cx] 62)).heap.size = w2.heap.size + 1 by simp] at hU
          generalize hW4 : (((w2.alloc (.cells #[.slice ax nx cx] 62)).alloc (.cells #[.int .i64 0] 94)).alloc (.cells #[.int .i64 0] 97)) = W4 at *
          go_wp2_with fail
          ((with_reducible refine (HF.out _ W4 b4.out).mono ?_); rintro e w5 ⟨rfl, rfl⟩)
          have HCn := Lib.hid (fun w' (h : UAt w' (w2.heap.size + 1) 0) => Count_any (w2.heap.size + 1) 0 w' h)
          clear d0 d1 hW4 HF HFew HSh HAw
          go_wp2_with fail
          (with_reducible refine (HRC.out _ b4.out).mono ?_)
          rintro e w6 ⟨rfl, ⟨nd, rfl⟩⟩
          go_wp2_with fail
          (with_reducible refine (HR.out _ (by have := b4.out; (repeat first | assumption | exact Below.refl _ _ | refine Below.drew ?_ | refine Below.drewN ?_ _ | refine Below.alloc ?_ (by (first | omega | (simp; done) | (simp; omega))) _ | refine Below.setCell ?_ (by (first | omega | (simp; done) | (simp; omega))) _ | refine Below.trans ?_ (Below.mono (by assumption) (by (first | omega | (simp; done) | (simp; omega))))))).mono ?_)
          rintro e w7 ⟨rfl, hb7⟩
          have z7 := hb7.size
          (try simp at z7)
          have hU7 : Hid (UAt w7 (w2.heap.size + 1) 0) := Lib.hid (hU.out.kept (by (repeat first | assumption | exact Below.refl _ _ | refine Below.drew ?_ | refine Below.drewN ?_ _ | refine Below.alloc ?_ (by (first | omega | (simp; done) | (simp; omega))) _ | refine Below.setCell ?_ (by (first | omega | (simp; done) | (simp; omega))) _ | refine Below.trans ?_ (Below.mono (by assumption) (by (first | omega | (simp; done) | (simp; omega)))))))
          have Hb7 : Hid (Below w.heap.size w w7) := Lib.hid (by have := b4.out; (repeat first | assumption | exact Below.refl _ _ | refine Below.drew ?_ | refine Below.drewN ?_ _ | refine Below.alloc ?_ (by (first | omega | (simp; done) | (simp; omega))) _ | refine Below.setCell ?_ (by (first | omega | (simp; done) | (simp; omega))) _ | refine Below.trans ?_ (Below.mono (by assumption) (by (first | omega | (simp; done) | (simp; omega))))))
          clear hb7 g0 g1
          go_wp2_with first
            | ((with_reducible refine (HCn.out _ (hU7.out.kept (by (repeat first | assumption | exact Below.refl _ _ | refine Below.drew ?_ | refine Below.drewN ?_ _ | refine Below.alloc ?_ (by (first | omega | (simp; done) | (simp; omega))) _ | refine Below.setCell ?_ (by (first | omega | (simp; done) | (simp; omega))) _ | refine Below.trans ?_ (Below.mono (by assumption) (by (first | omega | (simp; done) | (simp; omega)))))))).mono ?_); rintro e w8 ⟨rfl, rfl⟩)
            | fail
          go_ret
          exact ⟨rfl, by have := Hb7.out; (repeat first | assumption | exact Below.refl _ _ | refine Below.drew ?_ | refine Below.drewN ?_ _ | refine Below.alloc ?_ (by (first | omega | (simp; done) | (simp; omega))) _ | refine Below.setCell ?_ (by (first | omega | (simp; done) | (simp; omega))) _ | refine Below.trans ?_ (Below.mono (by assumption) (by (first | omega | (simp; done) | (simp; omega)))))⟩
      · have er : rcnt s = -1 := by unfold rcnt; rw [if_neg hok]
        rw [er] at HRC
        have HF := Lib.hid (fun u w' (hb : Below w.heap.size w w') => Forward_bad u aS ns cS s ap np cp ax nx cx w' 70 ((hS.rd (by omega)).kept hb) (by omega) (by unfold shp; rw [if_neg hok]) (by omega))
        clear hS hP hX hfew hok er HR
        go_enter Try.func10, Try.ntmps10
        go_wp2_with first
          | ((with_reducible refine (HAw.out _).mono ?_); rintro e w1 ⟨rfl, hb1⟩; obtain ⟨hc1, hf1⟩ := bcell hb1; have hz1 := hb1.size; (try simp at hz1 hc1 hf1); have lt1 : w.heap.size < w1.heap.size := (by omega))
          | ((with_reducible refine (HFew.out _ (by (repeat first | assumption | exact Below.refl _ _ | refine Below.drew ?_ | refine Below.drewN ?_ _ | refine Below.alloc ?_ (by (first | omega | (simp; done) | (simp; omega))) _ | refine Below.setCell ?_ (by (first | omega | (simp; done) | (simp; omega))) _ | refine Below.trans ?_ (Below.mono (by assumption) (by (first | omega | (simp; done) | (simp; omega))))))).mono ?_); rintro e w2 ⟨rfl, hb2⟩; obtain ⟨hc2, hf2⟩ := bcell hb2; have hz2 := hb2.size; (try simp at hz2 hc2 hf2); have lt2 : w.heap.size < w2.heap.size := (by omega))
          | fail
        have d0 : w2.cell? ⟨w.heap.size, 0, none⟩ = some (.slice aS ns cS) := by rw [hc2 _ _ (by omega), hc1 _ _ (by omega)]; go_simp
        have d1 : w2.cell? ⟨w.heap.size, 1, none⟩ = some (.slice ap np cp) := by rw [hc2 _ _ (by omega), hc1 _ _ (by omega)]; go_simp
        have Hb2 : Hid (Below w.heap.size w w2) := Lib.hid (by (repeat first | assumption | exact Below.refl _ _ | refine Below.drew ?_ | refine Below.drewN ?_ _ | refine Below.alloc ?_ (by (first | omega | (simp; done) | (simp; omega))) _ | refine Below.setCell ?_ (by (first | omega | (simp; done) | (simp; omega))) _ | refine Below.trans ?_ (Below.mono (by assumption) (by (first | omega | (simp; done) | (simp; omega))))))
        clear hb1 hb2 hc1 hc2 hf1 hf2
        ((with_reducible refine (HSh.out _ _ (World.cell?_alloc_at _ _ _ _ rfl)).mono ?_); rintro e w3 ⟨rfl, rfl⟩)
        have b4 : Hid (Below w.heap.size w (((w2.alloc (.cells #[.slice ax nx cx] 62)).alloc (.cells #[.int .i64 0] 94)).alloc (.cells #[.int .i64 0] 97))) := Lib.hid (by have := Hb2.out; (repeat first | assumption | exact Below.refl _ _ | refine Below.drew ?_ | refine Below.drewN ?_ _ | refine Below.alloc ?_ (by (first | omega | (simp; done) | (simp; omega))) _ | refine Below.setCell ?_ (by (first | omega | (simp; done) | (simp; omega))) _ | refine Below.trans ?_ (Below.mono (by assumption) (by (first | omega | (simp; done) | (simp; omega))))))
        have lt3 : w.heap.size < w2.heap.size := by have := Hb2.out.size; omega
        have g0 : (((w2.alloc (.cells #[.slice ax nx cx] 62)).alloc (.cells #[.int .i64 0] 94)).alloc (.cells #[.int .i64 0] 97)).cell? ⟨w.heap.size, 0, none⟩ = some (.slice aS ns cS) := by rw [World.cell?_alloc_past _ _ _ (by simp; omega), World.cell?_alloc_past _ _ _ (by simp; omega), World.cell?_alloc_past _ _ _ (by omega)]; exact d0
        have g1 : (((w2.alloc (.cells #[.slice ax nx cx] 62)).alloc (.cells #[.int .i64 0] 94)).alloc (.cells #[.int .i64 0] 97)).cell? ⟨w.heap.size, 1, none⟩ = some (.slice ap np cp) := by rw [World.cell?_alloc_past _ _ _ (by simp; omega), World.cell?_alloc_past _ _ _ (by simp; omega), World.cell?_alloc_past _ _ _ (by omega)]; exact d1
        have hU : Hid (UAt (((w2.alloc (.cells #[.slice ax nx cx] 62)).alloc (.cells #[.int .i64 0] 94)).alloc (.cells #[.int .i64 0] 97)) (w2.alloc (.cells #[.slice ax nx cx] 62)).heap.size 0) := Lib.hid ((UAt.lay (w2.alloc (.cells #[.slice ax nx cx] 62)) 94).kept ((Below.refl _ _).alloc (Nat.le_refl _) _))
        have hW4z : (((w2.alloc (.cells #[.slice ax nx cx] 62)).alloc (.cells #[.int .i64 0] 94)).alloc (.cells #[.int .i64 0] 97)).heap.size = w2.heap.size + 3 := by simp
        rw [show (w2.alloc (.cells #[.slice ax nx cx] 62)).heap.size = w2.heap.size + 1 by simp] at hU
        generalize hW4 : (((w2.alloc (.cells #[.slice ax nx cx] 62)).alloc (.cells #[.int .i64 0] 94)).alloc (.cells #[.int .i64 0] 97)) = W4 at *
        go_wp2_with fail
        ((with_reducible refine (HF.out _ W4 b4.out).mono ?_); rintro e w5 ⟨rfl, rfl⟩)
        have HCn := Lib.hid (fun w' (h : UAt w' (w2.heap.size + 1) 0) => Count_any (w2.heap.size + 1) 0 w' h)
        clear d0 d1 hW4 HF HFew HSh HAw
        go_wp2_with first
          | ((with_reducible refine (HRC.out _ b4.out).mono ?_); rintro e w6 ⟨rfl, ⟨nd, rfl⟩⟩)
          | ((with_reducible refine (HCn.out _ (hU.out.kept (by (repeat first | assumption | exact Below.refl _ _ | refine Below.drew ?_ | refine Below.drewN ?_ _ | refine Below.alloc ?_ (by (first | omega | (simp; done) | (simp; omega))) _ | refine Below.setCell ?_ (by (first | omega | (simp; done) | (simp; omega))) _ | refine Below.trans ?_ (Below.mono (by assumption) (by (first | omega | (simp; done) | (simp; omega)))))))).mono ?_); rintro e w7 ⟨rfl, rfl⟩)
          | fail
        go_ret
        exact ⟨rfl, by have := b4.out; (repeat first | assumption | exact Below.refl _ _ | refine Below.drew ?_ | refine Below.drewN ?_ _ | refine Below.alloc ?_ (by (first | omega | (simp; done) | (simp; omega))) _ | refine Below.setCell ?_ (by (first | omega | (simp; done) | (simp; omega))) _ | refine Below.trans ?_ (Below.mono (by assumption) (by (first | omega | (simp; done) | (simp; omega)))))⟩
    · rw [show decide (nx ≤ 100) = false by simpa using hsx] at HSh
      clear hS hP hX hfew HR HRC
      go_enter Try.func10, Try.ntmps10
      go_wp2_with first
        | ((with_reducible refine (HAw.out _).mono ?_); rintro e w1 ⟨rfl, hb1⟩; obtain ⟨hc1, hf1⟩ := bcell hb1; have hz1 := hb1.size; (try simp at hz1 hc1 hf1); have lt1 : w.heap.size < w1.heap.size := (by omega))
        | ((with_reducible refine (HFew.out _ (by (repeat first | assumption | exact Below.refl _ _ | refine Below.drew ?_ | refine Below.drewN ?_ _ | refine Below.alloc ?_ (by (first | omega | (simp; done) | (simp; omega))) _ | refine Below.setCell ?_ (by (first | omega | (simp; done) | (simp; omega))) _ | refine Below.trans ?_ (Below.mono (by assumption) (by (first | omega | (simp; done) | (simp; omega))))))).mono ?_); rintro e w2 ⟨rfl, hb2⟩; obtain ⟨hc2, hf2⟩ := bcell hb2; have hz2 := hb2.size; (try simp at hz2 hc2 hf2); have lt2 : w.heap.size < w2.heap.size := (by omega))
        | fail
      have d0 : w2.cell? ⟨w.heap.size, 0, none⟩ = some (.slice aS ns cS) := by rw [hc2 _ _ (by omega), hc1 _ _ (by omega)]; go_simp
      have d1 : w2.cell? ⟨w.heap.size, 1, none⟩ = some (.slice ap np cp) := by rw [hc2 _ _ (by omega), hc1 _ _ (by omega)]; go_simp
      have Hb2 : Hid (Below w.heap.size w w2) := Lib.hid (by (repeat first | assumption | exact Below.refl _ _ | refine Below.drew ?_ | refine Below.drewN ?_ _ | refine Below.alloc ?_ (by (first | omega | (simp; done) | (simp; omega))) _ | refine Below.setCell ?_ (by (first | omega | (simp; done) | (simp; omega))) _ | refine Below.trans ?_ (Below.mono (by assumption) (by (first | omega | (simp; done) | (simp; omega))))))
      clear hb1 hb2 hc1 hc2 hf1 hf2
      ((with_reducible refine (HSh.out _ _ (World.cell?_alloc_at _ _ _ _ rfl)).mono ?_); rintro e w3 ⟨rfl, rfl⟩)
      go_wp2
      go_ret
      exact ⟨rfl, by have := Hb2.out; (repeat first | assumption | exact Below.refl _ _ | refine Below.drew ?_ | refine Below.drewN ?_ _ | refine Below.alloc ?_ (by (first | omega | (simp; done) | (simp; omega))) _ | refine Below.setCell ?_ (by (first | omega | (simp; done) | (simp; omega))) _ | refine Below.trans ?_ (Below.mono (by assumption) (by (first | omega | (simp; done) | (simp; omega)))))⟩
  · rw [show fewB s ns np = false by simpa using hfew] at HFew
    clear hS hP hX hfew
    go_enter Try.func10, Try.ntmps10
    go_wp2_with first
      | ((with_reducible refine (HAw.out _).mono ?_); rintro e w1 ⟨rfl, hb1⟩; obtain ⟨hc1, hf1⟩ := bcell hb1; have hz1 := hb1.size; (try simp at hz1 hc1 hf1); have lt1 : w.heap.size < w1.heap.size := (by omega))
      | ((with_reducible refine (HFew.out _ (by (repeat first | assumption | exact Below.refl _ _ | refine Below.drew ?_ | refine Below.drewN ?_ _ | refine Below.alloc ?_ (by (first | omega | (simp; done) | (simp; omega))) _ | refine Below.setCell ?_ (by (first | omega | (simp; done) | (simp; omega))) _ | refine Below.trans ?_ (Below.mono (by assumption) (by (first | omega | (simp; done) | (simp; omega))))))).mono ?_); rintro e w2 ⟨rfl, hb2⟩; obtain ⟨hc2, hf2⟩ := bcell hb2; have hz2 := hb2.size; (try simp at hz2 hc2 hf2); have lt2 : w.heap.size < w2.heap.size := (by omega))
      | fail
    go_ret
    exact ⟨rfl, by (repeat first | assumption | exact Below.refl _ _ | refine Below.drew ?_ | refine Below.drewN ?_ _ | refine Below.alloc ?_ (by (first | omega | (simp; done) | (simp; omega))) _ | refine Below.setCell ?_ (by (first | omega | (simp; done) | (simp; omega))) _ | refine Below.trans ?_ (Below.mono (by assumption) (by (first | omega | (simp; done) | (simp; omega)))))⟩
end Go.Proofs.Ytdamenbpgkhiiaa
