/-
  The walk of regattalaw07.MlpStill.
-/
import Derived.Test.YtdamenbpgkhiiaaLawC
namespace Go.Proofs.Ytdamenbpgkhiiaa
open Go.RowKit
set_option linter.unusedVariables false
set_option linter.unusedSimpArgs false

set_option maxHeartbeats 4000000 in
set_option maxRecDepth 100000 in
theorem still_walk (aS : Option Addr) (ns cS : Nat) (s : List Int) (ap : Option Addr) (np cp : Nat) (p : List Int) (ax : Option Addr) (nx cx : Nat) (x : List Int) (w : World)
    (hS : InRow w aS ns cS s) (hP : InRow w ap np cp p) (hX : InRow w ax nx cx x) :
    Calls Try.prog 6 #[.agg #[.slice aS ns cS, .slice ap np cp], .slice ax nx cx] w fun e w' => e = .returned (.bool true) ∧ Below w.heap.size w w' := by
  have hnsm : ns ≤ 9223372036854775807 := by have := hS.nc; have := hS.cm; omega
  have hnpm : np ≤ 9223372036854775807 := by have := hP.nc; have := hP.cm; omega
  have hnxm : nx ≤ 9223372036854775807 := by have := hX.nc; have := hX.cm; omega
  have HAw := Lib.hid (fun w => awake_any w)
  have HFew := Lib.hid (fun w' (hb : Below w.heap.size w w') => few_any aS ns cS s ap np cp w' (fun h => (hS.rd (by omega)).kept hb) hnsm hnpm)
  have HSh := Lib.hid (fun g w h1 => short1_any g nx cx ax w h1 hnxm)
  by_cases hfew : fewB s ns np = true
  · have hfe := hfew
    rw [hfew] at HFew
    unfold fewB at hfew
    rw [decide_eq_true_eq] at hfew
    have HR := Lib.hid (fun w' (hb : Below w.heap.size w w') => right_any aS ns cS s ap np cp w' ((hS.rd (by omega)).kept hb) hnpm)
    by_cases hsx : nx ≤ 100
    · rw [show decide (nx ≤ 100) = true by simpa using hsx] at HSh
      by_cases hr : rightB s np = true
      · rw [hr] at HR
        unfold rightB at hr
        rw [decide_eq_true_eq] at hr
        have hsl := (hS.rd (by omega)).1
        have h2 := hr.1.1
        have h6 := hr.1.2.1
        rw [hsl] at h2 h6
        obtain ⟨bs, os, rfl, hbs, hcs⟩ := (hS.rd (by omega)).at (i := 0) (by omega)
        have hs0 := hr.1.szv (i := 0) (by rw [hsl]; omega)
        rw [hs0.1, Nat.add_zero] at hcs
        by_cases hx0 : nx = szN s 0
        · obtain ⟨m, rfl⟩ : ∃ m, ns = m + 1 := ⟨ns - 1, by omega⟩
          have hn : NetOk s p x m := ⟨hr.1, hsl, by rw [(hP.rd (by omega)).1, hr.2], by rw [(hX.rd (by omega)).1, hx0], hP.i, hX.i⟩
          have HF := Lib.hid (fun w' (hb : Below w.heap.size w w') => Forward_ok none 0 (some ⟨bs, os, none⟩) (m + 1) cS s ap np cp p ax nx cx x m w' hn ((hS.rd (by omega)).kept hb) ((hP.rd (by omega)).kept hb) ((hX.rd (by omega)).kept hb) hP.nc hP.cm hX.nil (fun _ _ h => by cases h) (Un.none _ _))
          rw [show uV none = .pointer none from rfl] at HF
          have HG := Lib.hid (fun w' aT nt cT (t : List Int) (hb : Below w.heap.size w w') (ht : Rd w' .i64 aT nt t) (hl : t.length = szN s m) (it : A64 t) => Gradient_ok (some ⟨bs, os, none⟩) (m + 1) cS s ap np cp p ax nx cx x aT nt cT t m w' hn ((hS.rd (by omega)).kept hb) ((hP.rd (by omega)).kept hb) ((hX.rd (by omega)).kept hb) ht hP.nc hP.cm hX.nil hl it)
          have Hn := Lib.hid hn
          have hpl := (hP.rd (by omega)).1
          have Hpl := Lib.hid hpl
          have hm5 : m ≤ 5 := hn.m_pos.2
          have hnp400 : np ≤ 400 := hfew.2.1
          have hsm := (hn.hs.szv (i := m) (by rw [hn.hm]; omega)).2
          have Hvm := Lib.hid (val_len (s := s) (p := p) (x := x) hn.hx m)
          clear hn hS hP hX hfew hfe hr hs0 hsl hpl h2 h6
          rw [← hx0] at hcs
          have Hx0 := Lib.hid hx0; clear hx0
          go_enter Try.func6, Try.ntmps6
          go_wp2_with fail
          ((with_reducible refine (HAw.out _).mono ?_); rintro e w1 ⟨rfl, hb1⟩)
          obtain ⟨hc1, hf1⟩ := bcell hb1
          have hz1 := hb1.size
          simp at hz1 hc1 hf1
          have lt1 : w.heap.size < w1.heap.size := by omega
          have hbs1 : bs < w1.heap.size := by omega
          go_wp2_with first
            | ((with_reducible refine (HFew.out _ (by (repeat first | assumption | exact Below.refl _ _ | refine Below.drew ?_ | refine Below.drewN ?_ _ | refine Below.alloc ?_ (by (first | omega | (simp; done) | (simp; omega))) _ | refine Below.setCell ?_ (by (first | omega | (simp; done) | (simp; omega))) _ | refine Below.trans ?_ (Below.mono (by assumption) (by (first | omega | (simp; done) | (simp; omega))))))).mono ?_); rintro e w2 ⟨rfl, hb2⟩; obtain ⟨hc2, hf2⟩ := bcell hb2; have hz2 := hb2.size; (try simp at hz2 hc2 hf2); have lt2 : w.heap.size < w2.heap.size := (by omega); have hbs2 : bs < w2.heap.size := (by omega))
            | ((with_reducible refine (HSh.out _ _ (World.cell?_alloc_at _ _ _ _ rfl)).mono ?_); rintro e w3 ⟨rfl, rfl⟩)
            | ((with_reducible refine (HR.out _ (by (repeat first | assumption | exact Below.refl _ _ | refine Below.drew ?_ | refine Below.drewN ?_ _ | refine Below.alloc ?_ (by (first | omega | (simp; done) | (simp; omega))) _ | refine Below.setCell ?_ (by (first | omega | (simp; done) | (simp; omega))) _ | refine Below.trans ?_ (Below.mono (by assumption) (by (first | omega | (simp; done) | (simp; omega))))))).mono ?_); rintro e w4 ⟨rfl, hb4⟩; obtain ⟨hc4, hf4⟩ := bcell hb4; have hz4 := hb4.size; (try simp at hz4 hc4 hf4); have lt4 : w.heap.size < w4.heap.size := (by omega); have hbs4 : bs < w4.heap.size := (by omega))
            | fail
          have d0 : w4.cell? ⟨w.heap.size, 0, none⟩ = some (.slice (some ⟨bs, os, none⟩) (m + 1) cS) := by
            rw [hc4 _ _ (by (first | omega | (simp; done) | (simp; omega))), World.cell?_alloc_past _ _ _ (by omega), hc2 _ _ (by omega), hc1 _ _ (by omega)]; go_simp
          have d1 : w4.cell? ⟨w.heap.size, 1, none⟩ = some (.slice ap np cp) := by
            rw [hc4 _ _ (by (first | omega | (simp; done) | (simp; omega))), World.cell?_alloc_past _ _ _ (by omega), hc2 _ _ (by omega), hc1 _ _ (by omega)]; go_simp
          have Hb4 : Hid (Below w.heap.size w w4) := Lib.hid (by (repeat first | assumption | exact Below.refl _ _ | refine Below.drew ?_ | refine Below.drewN ?_ _ | refine Below.alloc ?_ (by (first | omega | (simp; done) | (simp; omega))) _ | refine Below.setCell ?_ (by (first | omega | (simp; done) | (simp; omega))) _ | refine Below.trans ?_ (Below.mono (by assumption) (by (first | omega | (simp; done) | (simp; omega))))))
          clear hb1 hb2 hb4 hc1 hc2 hc4 hf1 hf2 hf4
          ((with_reducible refine (HF.out _ Hb4.out).mono ?_); rintro e w5 ⟨v5, xs5, rfl, hrow5, hos5, hc5, _⟩)
          have hb5 := hc5.below (Nat.le_refl _) (fun k hk => by cases hk)
          obtain ⟨av, cv, rfl, _, _⟩ := ownsRow_form hrow5
          obtain ⟨gv, rfl, hgvB, hgv, hcm, _⟩ := ownsRow_at hrow5 (i := m) (by omega)
          obtain ⟨ay, cy, hxm, hry, _⟩ := hos5.rd (i := m) (n := szN s m) (by simp [vals]) (by rw [vals_last]; exact Hvm.out) (by omega)
          rw [vals_last] at hry
          rw [hxm] at hcm
          have g0 : w5.cell? ⟨w.heap.size, 0, none⟩ = some (.slice (some ⟨bs, os, none⟩) (m + 1) cS) := (hb5.cell (p := ⟨w.heap.size, 0, none⟩) lt4).trans d0
          have g1 : w5.cell? ⟨w.heap.size, 1, none⟩ = some (.slice ap np cp) := (hb5.cell (p := ⟨w.heap.size, 1, none⟩) lt4).trans d1
          have hz5 := hb5.size
          have Hb5 : Hid (Below w.heap.size w w5) := Lib.hid (Hb4.out.trans (hb5.mono (by omega)))
          have HGa := Lib.hid (fun w' (hb : Below w5.heap.size w5 w') => HG.out w' ay (szN s m) cy (val s p x m) (Hb5.out.trans (hb.mono (by omega))) (hry.kept hb) Hvm.out (A64_val Hn.out.ix m))
          have lt5 : w.heap.size < w5.heap.size := by omega
          clear hrow5 hos5 hc5 hb5 hxm hry d0 d1 hgvB
          generalize szN s m = qm at *
          have hwm : IntKind.i64.wrap (m : Int) = (m : Int) := by rw [IntKind.wrap_i64]; omega
          have hmlt : m < m + 1 := by omega
          have hm0i : (0 : Int) ≤ (m : Int) := by omega
          have hm1i : (m : Int) < (m : Int) + 1 := by omega
          have hwm2 : IntKind.i64.wrap ((m : Int) + 1 - 1) = (m : Int) := by rw [IntKind.wrap_i64]; omega
          go_wp2_with fail
          go_region_held3 (fun w' => w'.cell? ⟨w.heap.size, 0, none⟩ = some (.slice (some ⟨bs, os, none⟩) (m + 1) cS) ∧ w'.cell? ⟨w.heap.size, 1, none⟩ = some (.slice ap np cp) ∧ w'.cell? ⟨gv, m, none⟩ = some (.slice ay qm cy))
            (first | assumption | go_keep)
            (first
              | (go_at_call 33; refine (HGa.out _ (by (repeat first | assumption | exact Below.refl _ _ | refine Below.drew ?_ | refine Below.drewN ?_ _ | refine Below.alloc ?_ (by (first | omega | (simp; done) | (simp; omega))) _ | refine Below.setCell ?_ (by (first | omega | (simp; done) | (simp; omega))) _ | refine Below.trans ?_ (Below.mono (by assumption) (by (first | omega | (simp; done) | (simp; omega))))))).mono ?_; rintro e w6 ⟨v6, rfl, ho6, hb6⟩; have hz6 := hb6.size; obtain ⟨hc6, hf6⟩ := bcell hb6; (try simp at hz6 hc6 hf6); have s6 : w6.cell? ⟨w.heap.size, 0, none⟩ = some (.slice (some ⟨bs, os, none⟩) (m + 1) cS) ∧ w6.cell? ⟨w.heap.size, 1, none⟩ = some (.slice ap np cp) ∧ w6.cell? ⟨gv, m, none⟩ = some (.slice ay qm cy) := ⟨(hc6 _ _ (by omega)).trans g0, (hc6 _ _ (by omega)).trans g1, (hc6 _ _ (by omega)).trans hcm⟩; have Hb6 : Hid (Below w.heap.size w w6) := Lib.hid (Hb5.out.trans (by (repeat first | assumption | exact Below.refl _ _ | refine Below.drew ?_ | refine Below.drewN ?_ _ | refine Below.alloc ?_ (by (first | omega | (simp; done) | (simp; omega))) _ | refine Below.setCell ?_ (by (first | omega | (simp; done) | (simp; omega))) _ | refine Below.trans ?_ (Below.mono (by assumption) (by (first | omega | (simp; done) | (simp; omega)))))))))
          have hgl : (gradS s p x (val s p x m) m).length = np := by rw [gradS_len Hn.out]; exact Hpl.out
          unfold Ow at ho6
          rw [hgl] at ho6
          obtain ⟨a6, c6, rfl, _, _⟩ := ownsRow_form ho6
          have Hr6 := Lib.hid (Ow.rd (n := np) (a := a6) (c := c6) (Ow.of ho6) (by omega))
          have Hz := Lib.hid (Z0_gradS s p x m)
          rw [sqFar_self]
          generalize gradS s p x (val s p x m) m = G at *
          clear hgl ho6 hb6 hc6 hf6
          obtain ⟨s60, s61, _⟩ := s6
          go_wp2
          go_loopw [89] (fun j wr => ∃ t : Nat, t ≤ np ∧ j = .int .i64 t ∧ Hid (w6 = wr)) (fun j _ => np - (intOf j).toNat)
          case atStart => exact ⟨0, Nat.zero_le _, rfl, rfl⟩
          case round =>
            obtain ⟨t, ht, rfl, hwr⟩ := hrel
            obtain rfl := hwr.out
            by_cases hlt : t < np
            · obtain ⟨b6, o6, rfl, _, hc6⟩ := Hr6.out.at hlt
              rw [Hz.out t] at hc6
              go_wp2
              go_roundw
              case rel => exact ⟨t + 1, by omega, by go_num, Lib.hid (by first | rfl | trivial)⟩
              case measure => simp [intOf]; omega
            · obtain rfl : t = np := by omega
              go_wp2
              go_ret
              exact ⟨rfl, Hb6.out⟩
        · have hne : ((nx : Int) != (szN s 0 : Int)) = true := by simpa using (by omega : ¬ (nx : Int) = szN s 0)
          have hne2 : ((nx : Int) == (szN s 0 : Int)) = false := by simpa using (by omega : ¬ (nx : Int) = szN s 0)
          have hns0 : 0 < ns := by omega
          clear hS hP hX hfew hfe hr hs0 hsl h2 h6
          generalize szN s 0 = q0 at *
          go_enter Try.func6, Try.ntmps6
          go_wp2_with first
            | ((with_reducible refine (HAw.out _).mono ?_); rintro e w1 ⟨rfl, hb1⟩; obtain ⟨hc1, hf1⟩ := bcell hb1; have hz1 := hb1.size; (try simp at hz1 hc1 hf1); have lt1 : w.heap.size < w1.heap.size := (by omega); have hbs1 : bs < w1.heap.size := (by omega))
            | ((with_reducible refine (HFew.out _ (by (repeat first | assumption | exact Below.refl _ _ | refine Below.drew ?_ | refine Below.drewN ?_ _ | refine Below.alloc ?_ (by (first | omega | (simp; done) | (simp; omega))) _ | refine Below.setCell ?_ (by (first | omega | (simp; done) | (simp; omega))) _ | refine Below.trans ?_ (Below.mono (by assumption) (by (first | omega | (simp; done) | (simp; omega))))))).mono ?_); rintro e w2 ⟨rfl, hb2⟩; obtain ⟨hc2, hf2⟩ := bcell hb2; have hz2 := hb2.size; (try simp at hz2 hc2 hf2); have lt2 : w.heap.size < w2.heap.size := (by omega); have hbs2 : bs < w2.heap.size := (by omega))
            | ((with_reducible refine (HSh.out _ _ (World.cell?_alloc_at _ _ _ _ rfl)).mono ?_); rintro e w3 ⟨rfl, rfl⟩)
            | ((with_reducible refine (HR.out _ (by (repeat first | assumption | exact Below.refl _ _ | refine Below.drew ?_ | refine Below.drewN ?_ _ | refine Below.alloc ?_ (by (first | omega | (simp; done) | (simp; omega))) _ | refine Below.setCell ?_ (by (first | omega | (simp; done) | (simp; omega))) _ | refine Below.trans ?_ (Below.mono (by assumption) (by (first | omega | (simp; done) | (simp; omega))))))).mono ?_); rintro e w4 ⟨rfl, hb4⟩; obtain ⟨hc4, hf4⟩ := bcell hb4; have hz4 := hb4.size; (try simp at hz4 hc4 hf4); have lt4 : w.heap.size < w4.heap.size := (by omega); have hbs4 : bs < w4.heap.size := (by omega))
            | fail
          go_ret
          exact ⟨rfl, by (repeat first | assumption | exact Below.refl _ _ | refine Below.drew ?_ | refine Below.drewN ?_ _ | refine Below.alloc ?_ (by (first | omega | (simp; done) | (simp; omega))) _ | refine Below.setCell ?_ (by (first | omega | (simp; done) | (simp; omega))) _ | refine Below.trans ?_ (Below.mono (by assumption) (by (first | omega | (simp; done) | (simp; omega)))))⟩
      · rw [show rightB s np = false by simpa using hr] at HR
        clear hS hP hX hfew hfe hr
        go_enter Try.func6, Try.ntmps6
        go_wp2_with first
          | ((with_reducible refine (HAw.out _).mono ?_); rintro e w1 ⟨rfl, hb1⟩; obtain ⟨hc1, hf1⟩ := bcell hb1; have hz1 := hb1.size; (try simp at hz1 hc1 hf1); have lt1 : w.heap.size < w1.heap.size := (by omega))
          | ((with_reducible refine (HFew.out _ (by (repeat first | assumption | exact Below.refl _ _ | refine Below.drew ?_ | refine Below.drewN ?_ _ | refine Below.alloc ?_ (by (first | omega | (simp; done) | (simp; omega))) _ | refine Below.setCell ?_ (by (first | omega | (simp; done) | (simp; omega))) _ | refine Below.trans ?_ (Below.mono (by assumption) (by (first | omega | (simp; done) | (simp; omega))))))).mono ?_); rintro e w2 ⟨rfl, hb2⟩; obtain ⟨hc2, hf2⟩ := bcell hb2; have hz2 := hb2.size; (try simp at hz2 hc2 hf2); have lt2 : w.heap.size < w2.heap.size := (by omega))
          | ((with_reducible refine (HSh.out _ _ (World.cell?_alloc_at _ _ _ _ rfl)).mono ?_); rintro e w3 ⟨rfl, rfl⟩)
          | ((with_reducible refine (HR.out _ (by (repeat first | assumption | exact Below.refl _ _ | refine Below.drew ?_ | refine Below.drewN ?_ _ | refine Below.alloc ?_ (by (first | omega | (simp; done) | (simp; omega))) _ | refine Below.setCell ?_ (by (first | omega | (simp; done) | (simp; omega))) _ | refine Below.trans ?_ (Below.mono (by assumption) (by (first | omega | (simp; done) | (simp; omega))))))).mono ?_); rintro e w4 ⟨rfl, hb4⟩; obtain ⟨hc4, hf4⟩ := bcell hb4; have hz4 := hb4.size; (try simp at hz4 hc4 hf4); have lt4 : w.heap.size < w4.heap.size := (by omega))
          | fail
        go_ret
        exact ⟨rfl, by (repeat first | assumption | exact Below.refl _ _ | refine Below.drew ?_ | refine Below.drewN ?_ _ | refine Below.alloc ?_ (by (first | omega | (simp; done) | (simp; omega))) _ | refine Below.setCell ?_ (by (first | omega | (simp; done) | (simp; omega))) _ | refine Below.trans ?_ (Below.mono (by assumption) (by (first | omega | (simp; done) | (simp; omega)))))⟩
    · rw [show decide (nx ≤ 100) = false by simpa using hsx] at HSh
      clear hS hP hX hfew hfe HR
      go_enter Try.func6, Try.ntmps6
      go_wp2_with first
        | ((with_reducible refine (HAw.out _).mono ?_); rintro e w1 ⟨rfl, hb1⟩; obtain ⟨hc1, hf1⟩ := bcell hb1; have hz1 := hb1.size; (try simp at hz1 hc1 hf1); have lt1 : w.heap.size < w1.heap.size := (by omega))
        | ((with_reducible refine (HFew.out _ (by (repeat first | assumption | exact Below.refl _ _ | refine Below.drew ?_ | refine Below.drewN ?_ _ | refine Below.alloc ?_ (by (first | omega | (simp; done) | (simp; omega))) _ | refine Below.setCell ?_ (by (first | omega | (simp; done) | (simp; omega))) _ | refine Below.trans ?_ (Below.mono (by assumption) (by (first | omega | (simp; done) | (simp; omega))))))).mono ?_); rintro e w2 ⟨rfl, hb2⟩; obtain ⟨hc2, hf2⟩ := bcell hb2; have hz2 := hb2.size; (try simp at hz2 hc2 hf2); have lt2 : w.heap.size < w2.heap.size := (by omega))
        | ((with_reducible refine (HSh.out _ _ (World.cell?_alloc_at _ _ _ _ rfl)).mono ?_); rintro e w3 ⟨rfl, rfl⟩)
        | fail
      go_ret
      exact ⟨rfl, by (repeat first | assumption | exact Below.refl _ _ | refine Below.drew ?_ | refine Below.drewN ?_ _ | refine Below.alloc ?_ (by (first | omega | (simp; done) | (simp; omega))) _ | refine Below.setCell ?_ (by (first | omega | (simp; done) | (simp; omega))) _ | refine Below.trans ?_ (Below.mono (by assumption) (by (first | omega | (simp; done) | (simp; omega)))))⟩
  · rw [show fewB s ns np = false by simpa using hfew] at HFew
    clear hS hP hX hfew
    go_enter Try.func6, Try.ntmps6
    go_wp2_with first
      | ((with_reducible refine (HAw.out _).mono ?_); rintro e w1 ⟨rfl, hb1⟩; obtain ⟨hc1, hf1⟩ := bcell hb1; have hz1 := hb1.size; (try simp at hz1 hc1 hf1); have lt1 : w.heap.size < w1.heap.size := (by omega))
      | ((with_reducible refine (HFew.out _ (by (repeat first | assumption | exact Below.refl _ _ | refine Below.drew ?_ | refine Below.drewN ?_ _ | refine Below.alloc ?_ (by (first | omega | (simp; done) | (simp; omega))) _ | refine Below.setCell ?_ (by (first | omega | (simp; done) | (simp; omega))) _ | refine Below.trans ?_ (Below.mono (by assumption) (by (first | omega | (simp; done) | (simp; omega))))))).mono ?_); rintro e w2 ⟨rfl, hb2⟩; obtain ⟨hc2, hf2⟩ := bcell hb2; have hz2 := hb2.size; (try simp at hz2 hc2 hf2); have lt2 : w.heap.size < w2.heap.size := (by omega))
      | fail
    go_ret
    exact ⟨rfl, by (repeat first | assumption | exact Below.refl _ _ | refine Below.drew ?_ | refine Below.drewN ?_ _ | refine Below.alloc ?_ (by (first | omega | (simp; done) | (simp; omega))) _ | refine Below.setCell ?_ (by (first | omega | (simp; done) | (simp; omega))) _ | refine Below.trans ?_ (Below.mono (by assumption) (by (first | omega | (simp; done) | (simp; omega)))))⟩
end Go.Proofs.Ytdamenbpgkhiiaa
