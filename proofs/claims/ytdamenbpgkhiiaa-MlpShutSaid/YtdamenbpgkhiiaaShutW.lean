/-
  The walk of regattalaw07.MlpShut.
-/
import Derived.Test.YtdamenbpgkhiiaaShutP
import Derived.Test.YtdamenbpgkhiiaaRegW
namespace Go.Proofs.Ytdamenbpgkhiiaa
open Go.RowKit
set_option linter.unusedVariables false
set_option linter.unusedSimpArgs false

theorem own_cellsS {w : World} {B size n : Nat} {E : TypeId} {v : Value} {xs : List Value} (h : w.ownsRow B E size v n xs) (hn : 0 < n) : ∃ g c, v = .slice (some ⟨g, 0, none⟩) n c ∧ B ≤ g ∧ g < w.heap.size ∧ ∀ j u, xs[j]? = some u → w.cell? ⟨g, j, none⟩ = some u := by
  rcases h.2 with ⟨e, e2⟩ | ⟨g, cap, cur, rfl, hb, hg, hc, hmx, hsz, ht⟩
  · omega
  · refine ⟨g, cap, rfl, hb, lt_of_block hg, fun j u hj => ?_⟩
    have := World.ownsRow.cells h (g := g) rfl j u hj
    rw [← this]
    simp only [Addr.add, Nat.zero_add]
    split <;> simp_all

set_option maxHeartbeats 8000000 in
set_option maxRecDepth 100000 in
theorem shut_walk (aS : Option Addr) (ns cS : Nat) (s : List Int) (ap : Option Addr) (np cp : Nat) (p : List Int) (ax : Option Addr) (nx cx : Nat) (x : List Int) (aT : Option Addr) (nt cT : Nat) (t : List Int) (w : World)
    (hS : InRow w aS ns cS s) (hP : InRow w ap np cp p) (hX : InRow w ax nx cx x) (hT : InRow w aT nt cT t) :
    Calls Try.prog 8 #[.agg #[.slice aS ns cS, .slice ap np cp], .agg #[.slice ax nx cx, .slice aT nt cT]] w fun e w' => e = .returned (.bool true) ∧ Below w.heap.size w w' := by
  have hnsm : ns ≤ 9223372036854775807 := by have := hS.nc; have := hS.cm; omega
  have hnpm : np ≤ 9223372036854775807 := by have := hP.nc; have := hP.cm; omega
  have hnxm : nx ≤ 9223372036854775807 := by have := hX.nc; have := hX.cm; omega
  have hntm : nt ≤ 9223372036854775807 := by have := hT.nc; have := hT.cm; omega
  have HAw := Lib.hid (fun w => awake_any w)
  have HFew := Lib.hid (fun w' (hb : Below w.heap.size w w') => few_any aS ns cS s ap np cp w' (fun h => (hS.rd (by omega)).kept hb) hnsm hnpm)
  have HSh := Lib.hid (fun g w h1 h2 => short2_any g nx cx nt cT ax aT w h1 h2 hnxm hntm)
  by_cases hfew : fewB s ns np = true
  · have hfe := hfew
    rw [hfew] at HFew
    unfold fewB at hfew
    rw [decide_eq_true_eq] at hfew
    have HR := Lib.hid (fun w' (hb : Below w.heap.size w w') => right_any aS ns cS s ap np cp w' ((hS.rd (by omega)).kept hb) hnpm)
    by_cases hsx : nx ≤ 100 ∧ nt ≤ 100
    · rw [show decide (nx ≤ 100 ∧ nt ≤ 100) = true by simpa using hsx] at HSh
      by_cases hr : rightB s np = true
      · rw [hr] at HR
        unfold rightB at hr
        rw [decide_eq_true_eq] at hr
        by_cases h3 : ns = 3
        · have hsl := (hS.rd (by omega)).1
          obtain ⟨bs, os, rfl, hbs, hcs⟩ := (hS.rd (by omega)).at (i := 0) (by omega)
          obtain ⟨bs', os', e', _, hcs2⟩ := (hS.rd (by omega)).at (i := 2) (by omega)
          cases e'
          have hs0 := hr.1.szv (i := 0) (by rw [hsl]; omega)
          have hs1 := hr.1.szv (i := 1) (by rw [hsl]; omega)
          have hs2 := hr.1.szv (i := 2) (by rw [hsl]; omega)
          rw [hs0.1, Nat.add_zero] at hcs
          rw [hs2.1] at hcs2
          by_cases hx0 : nx = szN s 0
          · by_cases ht2 : nt = szN s 2
            · obtain rfl := h3
              have hn : NetOk s p x 2 := ⟨hr.1, hsl, by rw [(hP.rd (by omega)).1, hr.2], by rw [(hX.rd (by omega)).1, hx0], hP.i, hX.i⟩
              have htl : t.length = szN s 2 := by rw [(hT.rd (by omega)).1, ht2]
              have HF := Lib.hid (fun w' (hb : Below w.heap.size w w') => Forward_ok none 0 (some ⟨bs, os, none⟩) 3 cS s ap np cp p ax nx cx x 2 w' hn ((hS.rd (by omega)).kept hb) ((hP.rd (by omega)).kept hb) ((hX.rd (by omega)).kept hb) hP.nc hP.cm hX.nil (fun _ _ h => by cases h) (Un.none _ _))
              rw [show uV none = .pointer none from rfl] at HF
              have HG := Lib.hid (fun w' (hb : Below w.heap.size w w') => Gradient_ok (some ⟨bs, os, none⟩) 3 cS s ap np cp p ax nx cx x aT nt cT t 2 w' hn ((hS.rd (by omega)).kept hb) ((hP.rd (by omega)).kept hb) ((hX.rd (by omega)).kept hb) ((hT.rd (by omega)).kept hb) hP.nc hP.cm hX.nil htl hT.i)
              obtain ⟨_, _, e', _, hcs1⟩ := (hS.rd (by omega)).at (i := 1) (by omega)
              cases e'
              rw [hs1.1] at hcs1
              have hpl := (hP.rd (by omega)).1
              have hgl : (gradS s p x t 2).length = np := by rw [gradS_len hn]; exact hpl
              have hnp : np = szN s 0 * szN s 1 + szN s 1 + szN s 1 * szN s 2 + szN s 2 := by
                rw [← hpl, hn.hp]
                unfold cntN
                rw [hn.hm]
                show fst s (1 + 1) = _
                rw [fst_succ s 1]
                show fst s (0 + 1) + _ = _
                rw [fst_succ s 0, show fst s 0 = 0 from rfl]
                simp only [Nat.zero_add, Nat.reduceAdd]
                rw [Nat.mul_comm (szN s 1) (szN s 0), Nat.mul_comm (szN s 2) (szN s 1)]
                omega
              have Hnp := Lib.hid hnp
              have Hgl := Lib.hid hgl
              have Hv1 := Lib.hid (val_len (s := s) (p := p) (x := x) hn.hx 1)
              have HK1 := Lib.hid (fun i (hi : i < szN s 1) (hz : (val s p x 1)[i]?.getD 0 = 0) k (hk : k < szN s 0) => shut_1 (t := t) hn.hx hi hz hk)
              have HK2 := Lib.hid (fun i (hi : i < szN s 1) (hz : (val s p x 1)[i]?.getD 0 = 0) o (ho : o < szN s 2) => shut_2 (t := t) hn.hx hi hz ho)
              have HK3 := Lib.hid (fun i (hi : i < szN s 1) (hz : (val s p x 1)[i]?.getD 0 = 0) => shut_3 (t := t) hn.hx hi hz)
              have hnp400 : np ≤ 400 := hfew.2.1
              have hne' : ((nx : Int) != (szN s 0 : Int)) = false := by simpa using (by omega : (nx : Int) = szN s 0)
              have hne2' : ((nt : Int) != (szN s 2 : Int)) = false := by simpa using (by omega : (nt : Int) = szN s 2)
              have hq1 := hs1.2
              have hq0 := hs0.2
              have hq2 := hs2.2
              clear hn hS hP hX hT hfew hfe hr hs0 hs1 hs2 hsl hpl htl hnp hgl
              generalize szN s 0 = q0 at *
              generalize szN s 2 = q2 at *
              subst hx0
              subst ht2
              have gs0x := hcs
              have gs2x := hcs2
              have gs1x := hcs1
              have Hv1' := Hv1
              clear hcs hcs2 hcs1
              go_enter Try.func8, Try.ntmps8
              go_wp2_with fail
              ((with_reducible refine (HAw.out _).mono ?_); rintro e w1 ⟨rfl, hb1⟩)
              obtain ⟨hc1, hf1⟩ := bcell hb1
              have hz1 := hb1.size
              simp at hz1 hc1 hf1
              have g0 : w1.cell? ⟨w.heap.size, 0, none⟩ = some (.slice (some ⟨bs, os, none⟩) 3 cS) := by rw [hc1 _ _ (by omega)]; go_simp
              have g1 : w1.cell? ⟨w.heap.size, 1, none⟩ = some (.slice ap np cp) := by rw [hc1 _ _ (by omega)]; go_simp
              have g2 : w1.cell? ⟨w.heap.size + 1, 0, none⟩ = some (.slice ax nx cx) := by rw [hc1 _ _ (by omega)]; go_simp
              have g3 : w1.cell? ⟨w.heap.size + 1, 1, none⟩ = some (.slice aT nt cT) := by rw [hc1 _ _ (by omega)]; go_simp
              have gs0 : w1.cell? ⟨bs, os, none⟩ = some (.int .i64 (nx : Int)) := by rw [hc1 _ _ (by omega), World.cell?_alloc_past _ _ _ (by (first | omega | (simp; done) | (simp; omega))), World.cell?_alloc_past _ _ _ hbs]; exact gs0x
              have gs1 : w1.cell? ⟨bs, os + 1, none⟩ = some (.int .i64 (szN s 1 : Int)) := by rw [hc1 _ _ (by omega), World.cell?_alloc_past _ _ _ (by (first | omega | (simp; done) | (simp; omega))), World.cell?_alloc_past _ _ _ hbs]; exact gs1x
              have gs2 : w1.cell? ⟨bs, os + 2, none⟩ = some (.int .i64 (nt : Int)) := by rw [hc1 _ _ (by omega), World.cell?_alloc_past _ _ _ (by (first | omega | (simp; done) | (simp; omega))), World.cell?_alloc_past _ _ _ hbs]; exact gs2x
              have lt1 : w.heap.size + 1 < w1.heap.size := by omega
              have lt_g0 : w.heap.size < w1.heap.size := by omega
              have lt_g1 := lt_g0
              have lt_g2 := lt1
              have lt_g3 := lt1
              have lt_gs0 : bs < w1.heap.size := by omega
              have lt_gs1 : bs < w1.heap.size := by omega
              have lt_gs2 : bs < w1.heap.size := by omega
              have Hb1 : Hid (Below w.heap.size w w1) := Lib.hid (by (repeat first | assumption | exact Below.refl _ _ | refine Below.drew ?_ | refine Below.drewN ?_ _ | refine Below.alloc ?_ (by (first | omega | (simp; done) | (simp; omega))) _ | refine Below.setCell ?_ (by (first | omega | (simp; done) | (simp; omega))) _ | refine Below.trans ?_ (Below.mono (by assumption) (by (first | omega | (simp; done) | (simp; omega))))))
              clear hb1 hc1 hf1 HAw
              go_wp2_with fail
              refine wp_region_held_drew (S := fun w' => Below w1.heap.size w1 w') (by kernel_rfl) ?_ (fun hHeld => ?_)
              · exact (Below.refl _ _).drew
              refine tkW (v := ?_) 0 rfl (by kernel_rfl) (by kernel_rfl) (by kernel_rfl) (fun _ _ _ h => h) (by rfl) (by assumption) ?_ ?_
              rotate_left
              · intro w' hSw; (try dsimp only at hSw); have kg0 : w'.cell? ⟨w.heap.size, 0, none⟩ = some (.slice (some ⟨bs, os, none⟩) 3 cS) := (hSw.cell (p := ⟨w.heap.size, 0, none⟩) (by first | exact lt_g0 | omega)).trans g0; have kg1 : w'.cell? ⟨w.heap.size, 1, none⟩ = some (.slice ap np cp) := (hSw.cell (p := ⟨w.heap.size, 1, none⟩) (by first | exact lt_g1 | omega)).trans g1; have kg2 : w'.cell? ⟨w.heap.size + 1, 0, none⟩ = some (.slice ax nx cx) := (hSw.cell (p := ⟨w.heap.size + 1, 0, none⟩) (by first | exact lt_g2 | omega)).trans g2; have kg3 : w'.cell? ⟨w.heap.size + 1, 1, none⟩ = some (.slice aT nt cT) := (hSw.cell (p := ⟨w.heap.size + 1, 1, none⟩) (by first | exact lt_g3 | omega)).trans g3; have kgs0 : w'.cell? ⟨bs, os, none⟩ = some (.int .i64 (nx : Int)) := (hSw.cell (p := ⟨bs, os, none⟩) (by first | exact lt_gs0 | omega)).trans gs0; have kgs1 : w'.cell? ⟨bs, os + 1, none⟩ = some (.int .i64 (szN s 1 : Int)) := (hSw.cell (p := ⟨bs, os + 1, none⟩) (by first | exact lt_gs1 | omega)).trans gs1; have kgs2 : w'.cell? ⟨bs, os + 2, none⟩ = some (.int .i64 (nt : Int)) := (hSw.cell (p := ⟨bs, os + 2, none⟩) (by first | exact lt_gs2 | omega)).trans gs2; clear hSw; go_simp; (try with_reducible rfl)
              (try simp only [Act.put, List.setIfInBounds_toArray, List.set_cons_zero, List.set_cons_succ])
              refine tkC 1 rfl (by kernel_rfl) (by rfl) (fun K hK => ?_)
              go_simp
              (go_at_call 29; refine (HFew.out _ (Hb1.out.trans (hHeld.mono (by omega)))).mono ?_; rintro e w2 ⟨rfl, hb2⟩; have hN := hHeld.trans (hb2.mono (by have := hHeld.size; omega)))
              (try dsimp only)
              refine hK.out _ _ ?_ (fun hHeld => ?_)
              · exact hN
              clear hK K
              (try simp only [Act.put, List.setIfInBounds_toArray, List.set_cons_zero, List.set_cons_succ])
              refine tkW (v := ?_) 2 rfl (by kernel_rfl) (by kernel_rfl) (by kernel_rfl) (fun _ _ _ h => h) (by rfl) (by assumption) ?_ ?_
              rotate_left
              · intro w' hSw; clear hSw; go_simp; (try with_reducible rfl)
              (try simp only [Act.put, List.setIfInBounds_toArray, List.set_cons_zero, List.set_cons_succ])
              refine tkW (v := ?_) 3 rfl (by kernel_rfl) (by kernel_rfl) (by kernel_rfl) (fun _ _ _ h => h) (by rfl) (by assumption) ?_ ?_
              rotate_left
              · intro w' hSw; clear hSw; go_simp; (try with_reducible rfl)
              (try simp only [Act.put, List.setIfInBounds_toArray, List.set_cons_zero, List.set_cons_succ])
              refine tkW (v := ?_) 4 rfl (by kernel_rfl) (by kernel_rfl) (by kernel_rfl) (fun _ _ _ h => h) (by rfl) (by assumption) ?_ ?_
              rotate_left
              · intro w' hSw; clear hSw; go_simp; (try with_reducible rfl)
              (try simp only [Act.put, List.setIfInBounds_toArray, List.set_cons_zero, List.set_cons_succ])
              refine tkW (v := ?_) 5 rfl (by kernel_rfl) (by kernel_rfl) (by kernel_rfl) (fun _ _ _ h => h) (by rfl) (by assumption) ?_ ?_
              rotate_left
              · intro w' hSw; (try dsimp only at hSw); have kg0 : w'.cell? ⟨w.heap.size, 0, none⟩ = some (.slice (some ⟨bs, os, none⟩) 3 cS) := (hSw.cell (p := ⟨w.heap.size, 0, none⟩) (by first | exact lt_g0 | omega)).trans g0; have kg1 : w'.cell? ⟨w.heap.size, 1, none⟩ = some (.slice ap np cp) := (hSw.cell (p := ⟨w.heap.size, 1, none⟩) (by first | exact lt_g1 | omega)).trans g1; have kg2 : w'.cell? ⟨w.heap.size + 1, 0, none⟩ = some (.slice ax nx cx) := (hSw.cell (p := ⟨w.heap.size + 1, 0, none⟩) (by first | exact lt_g2 | omega)).trans g2; have kg3 : w'.cell? ⟨w.heap.size + 1, 1, none⟩ = some (.slice aT nt cT) := (hSw.cell (p := ⟨w.heap.size + 1, 1, none⟩) (by first | exact lt_g3 | omega)).trans g3; have kgs0 : w'.cell? ⟨bs, os, none⟩ = some (.int .i64 (nx : Int)) := (hSw.cell (p := ⟨bs, os, none⟩) (by first | exact lt_gs0 | omega)).trans gs0; have kgs1 : w'.cell? ⟨bs, os + 1, none⟩ = some (.int .i64 (szN s 1 : Int)) := (hSw.cell (p := ⟨bs, os + 1, none⟩) (by first | exact lt_gs1 | omega)).trans gs1; have kgs2 : w'.cell? ⟨bs, os + 2, none⟩ = some (.int .i64 (nt : Int)) := (hSw.cell (p := ⟨bs, os + 2, none⟩) (by first | exact lt_gs2 | omega)).trans gs2; clear hSw; go_simp; (try with_reducible rfl)
              (try simp only [Act.put, List.setIfInBounds_toArray, List.set_cons_zero, List.set_cons_succ])
              refine tkW (v := ?_) 6 rfl (by kernel_rfl) (by kernel_rfl) (by kernel_rfl) (fun _ _ _ h => h) (by rfl) (by assumption) ?_ ?_
              rotate_left
              · intro w' hSw; clear hSw; go_simp; (try with_reducible rfl)
              (try simp only [Act.put, List.setIfInBounds_toArray, List.set_cons_zero, List.set_cons_succ])
              refine tkW (v := ?_) 7 rfl (by kernel_rfl) (by kernel_rfl) (by kernel_rfl) (fun _ _ _ h => h) (by rfl) (by assumption) ?_ ?_
              rotate_left
              · intro w' hSw; (try dsimp only at hSw); have kg0 : w'.cell? ⟨w.heap.size, 0, none⟩ = some (.slice (some ⟨bs, os, none⟩) 3 cS) := (hSw.cell (p := ⟨w.heap.size, 0, none⟩) (by first | exact lt_g0 | omega)).trans g0; have kg1 : w'.cell? ⟨w.heap.size, 1, none⟩ = some (.slice ap np cp) := (hSw.cell (p := ⟨w.heap.size, 1, none⟩) (by first | exact lt_g1 | omega)).trans g1; have kg2 : w'.cell? ⟨w.heap.size + 1, 0, none⟩ = some (.slice ax nx cx) := (hSw.cell (p := ⟨w.heap.size + 1, 0, none⟩) (by first | exact lt_g2 | omega)).trans g2; have kg3 : w'.cell? ⟨w.heap.size + 1, 1, none⟩ = some (.slice aT nt cT) := (hSw.cell (p := ⟨w.heap.size + 1, 1, none⟩) (by first | exact lt_g3 | omega)).trans g3; have kgs0 : w'.cell? ⟨bs, os, none⟩ = some (.int .i64 (nx : Int)) := (hSw.cell (p := ⟨bs, os, none⟩) (by first | exact lt_gs0 | omega)).trans gs0; have kgs1 : w'.cell? ⟨bs, os + 1, none⟩ = some (.int .i64 (szN s 1 : Int)) := (hSw.cell (p := ⟨bs, os + 1, none⟩) (by first | exact lt_gs1 | omega)).trans gs1; have kgs2 : w'.cell? ⟨bs, os + 2, none⟩ = some (.int .i64 (nt : Int)) := (hSw.cell (p := ⟨bs, os + 2, none⟩) (by first | exact lt_gs2 | omega)).trans gs2; clear hSw; go_simp; (try with_reducible rfl)
              (try simp only [Act.put, List.setIfInBounds_toArray, List.set_cons_zero, List.set_cons_succ])
              refine tkC 8 rfl (by kernel_rfl) (by rfl) (fun K hK => ?_)
              go_simp
              refine hK.out _ _ ?_ (fun hHeld => ?_)
              · exact hHeld.alloc (by have := hHeld.size; omega) _
              clear hK K
              (try simp only [Act.put, List.setIfInBounds_toArray, List.set_cons_zero, List.set_cons_succ])
              refine tkC 9 rfl (by kernel_rfl) (by rfl) (fun K hK => ?_)
              go_simp
              (go_at_call 30; refine (HSh.out _ _ (World.cell?_alloc_at _ _ _ _ rfl) (World.cell?_alloc_at _ _ _ _ rfl)).mono ?_; rintro e w3 ⟨rfl, rfl⟩; have hN := hHeld)
              (try dsimp only)
              refine hK.out _ _ ?_ (fun hHeld => ?_)
              · exact hN
              clear hK K
              (try simp only [Act.put, List.setIfInBounds_toArray, List.set_cons_zero, List.set_cons_succ])
              refine tkW (v := ?_) 10 rfl (by kernel_rfl) (by kernel_rfl) (by kernel_rfl) (fun _ _ _ h => h) (by rfl) (by assumption) ?_ ?_
              rotate_left
              · intro w' hSw; clear hSw; go_simp; (try with_reducible rfl)
              (try simp only [Act.put, List.setIfInBounds_toArray, List.set_cons_zero, List.set_cons_succ])
              refine tkW (v := ?_) 11 rfl (by kernel_rfl) (by kernel_rfl) (by kernel_rfl) (fun _ _ _ h => h) (by rfl) (by assumption) ?_ ?_
              rotate_left
              · intro w' hSw; clear hSw; go_simp; (try with_reducible rfl)
              (try simp only [Act.put, List.setIfInBounds_toArray, List.set_cons_zero, List.set_cons_succ])
              refine tkW (v := ?_) 12 rfl (by kernel_rfl) (by kernel_rfl) (by kernel_rfl) (fun _ _ _ h => h) (by rfl) (by assumption) ?_ ?_
              rotate_left
              · intro w' hSw; clear hSw; go_simp; (try with_reducible rfl)
              (try simp only [Act.put, List.setIfInBounds_toArray, List.set_cons_zero, List.set_cons_succ])
              refine tkW (v := ?_) 13 rfl (by kernel_rfl) (by kernel_rfl) (by kernel_rfl) (fun _ _ _ h => h) (by rfl) (by assumption) ?_ ?_
              rotate_left
              · intro w' hSw; (try dsimp only at hSw); have kg0 : w'.cell? ⟨w.heap.size, 0, none⟩ = some (.slice (some ⟨bs, os, none⟩) 3 cS) := (hSw.cell (p := ⟨w.heap.size, 0, none⟩) (by first | exact lt_g0 | omega)).trans g0; have kg1 : w'.cell? ⟨w.heap.size, 1, none⟩ = some (.slice ap np cp) := (hSw.cell (p := ⟨w.heap.size, 1, none⟩) (by first | exact lt_g1 | omega)).trans g1; have kg2 : w'.cell? ⟨w.heap.size + 1, 0, none⟩ = some (.slice ax nx cx) := (hSw.cell (p := ⟨w.heap.size + 1, 0, none⟩) (by first | exact lt_g2 | omega)).trans g2; have kg3 : w'.cell? ⟨w.heap.size + 1, 1, none⟩ = some (.slice aT nt cT) := (hSw.cell (p := ⟨w.heap.size + 1, 1, none⟩) (by first | exact lt_g3 | omega)).trans g3; have kgs0 : w'.cell? ⟨bs, os, none⟩ = some (.int .i64 (nx : Int)) := (hSw.cell (p := ⟨bs, os, none⟩) (by first | exact lt_gs0 | omega)).trans gs0; have kgs1 : w'.cell? ⟨bs, os + 1, none⟩ = some (.int .i64 (szN s 1 : Int)) := (hSw.cell (p := ⟨bs, os + 1, none⟩) (by first | exact lt_gs1 | omega)).trans gs1; have kgs2 : w'.cell? ⟨bs, os + 2, none⟩ = some (.int .i64 (nt : Int)) := (hSw.cell (p := ⟨bs, os + 2, none⟩) (by first | exact lt_gs2 | omega)).trans gs2; clear hSw; go_simp; (try with_reducible rfl)
              (try simp only [Act.put, List.setIfInBounds_toArray, List.set_cons_zero, List.set_cons_succ])
              refine tkC 14 rfl (by kernel_rfl) (by rfl) (fun K hK => ?_)
              go_simp
              (go_at_call 31; refine (HR.out _ (Hb1.out.trans (hHeld.mono (by omega)))).mono ?_; rintro e w4 ⟨rfl, hb4⟩; have hN := hHeld.trans (hb4.mono (by have := hHeld.size; omega)))
              (try dsimp only)
              refine hK.out _ _ ?_ (fun hHeld => ?_)
              · exact hN
              clear hK K
              (try simp only [Act.put, List.setIfInBounds_toArray, List.set_cons_zero, List.set_cons_succ])
              refine tkW (v := ?_) 15 rfl (by kernel_rfl) (by kernel_rfl) (by kernel_rfl) (fun _ _ _ h => h) (by rfl) (by assumption) ?_ ?_
              rotate_left
              · intro w' hSw; clear hSw; go_simp; (try with_reducible rfl)
              (try simp only [Act.put, List.setIfInBounds_toArray, List.set_cons_zero, List.set_cons_succ])
              refine tkW (v := ?_) 16 rfl (by kernel_rfl) (by kernel_rfl) (by kernel_rfl) (fun _ _ _ h => h) (by rfl) (by assumption) ?_ ?_
              rotate_left
              · intro w' hSw; clear hSw; go_simp; (try with_reducible rfl)
              (try simp only [Act.put, List.setIfInBounds_toArray, List.set_cons_zero, List.set_cons_succ])
              refine tkW (v := ?_) 17 rfl (by kernel_rfl) (by kernel_rfl) (by kernel_rfl) (fun _ _ _ h => h) (by rfl) (by assumption) ?_ ?_
              rotate_left
              · intro w' hSw; clear hSw; go_simp; (try with_reducible rfl)
              (try simp only [Act.put, List.setIfInBounds_toArray, List.set_cons_zero, List.set_cons_succ])
              refine tkW (v := ?_) 18 rfl (by kernel_rfl) (by kernel_rfl) (by kernel_rfl) (fun _ _ _ h => h) (by rfl) (by assumption) ?_ ?_
              rotate_left
              · intro w' hSw; clear hSw; go_simp; (try with_reducible rfl)
              (try simp only [Act.put, List.setIfInBounds_toArray, List.set_cons_zero, List.set_cons_succ])
              refine tkW (v := ?_) 19 rfl (by kernel_rfl) (by kernel_rfl) (by kernel_rfl) (fun _ _ _ h => h) (by rfl) (by assumption) ?_ ?_
              rotate_left
              · intro w' hSw; (try dsimp only at hSw); have kg0 : w'.cell? ⟨w.heap.size, 0, none⟩ = some (.slice (some ⟨bs, os, none⟩) 3 cS) := (hSw.cell (p := ⟨w.heap.size, 0, none⟩) (by first | exact lt_g0 | omega)).trans g0; have kg1 : w'.cell? ⟨w.heap.size, 1, none⟩ = some (.slice ap np cp) := (hSw.cell (p := ⟨w.heap.size, 1, none⟩) (by first | exact lt_g1 | omega)).trans g1; have kg2 : w'.cell? ⟨w.heap.size + 1, 0, none⟩ = some (.slice ax nx cx) := (hSw.cell (p := ⟨w.heap.size + 1, 0, none⟩) (by first | exact lt_g2 | omega)).trans g2; have kg3 : w'.cell? ⟨w.heap.size + 1, 1, none⟩ = some (.slice aT nt cT) := (hSw.cell (p := ⟨w.heap.size + 1, 1, none⟩) (by first | exact lt_g3 | omega)).trans g3; have kgs0 : w'.cell? ⟨bs, os, none⟩ = some (.int .i64 (nx : Int)) := (hSw.cell (p := ⟨bs, os, none⟩) (by first | exact lt_gs0 | omega)).trans gs0; have kgs1 : w'.cell? ⟨bs, os + 1, none⟩ = some (.int .i64 (szN s 1 : Int)) := (hSw.cell (p := ⟨bs, os + 1, none⟩) (by first | exact lt_gs1 | omega)).trans gs1; have kgs2 : w'.cell? ⟨bs, os + 2, none⟩ = some (.int .i64 (nt : Int)) := (hSw.cell (p := ⟨bs, os + 2, none⟩) (by first | exact lt_gs2 | omega)).trans gs2; clear hSw; go_simp; (try with_reducible rfl)
              (try simp only [Act.put, List.setIfInBounds_toArray, List.set_cons_zero, List.set_cons_succ])
              refine tkW (v := ?_) 20 rfl (by kernel_rfl) (by kernel_rfl) (by kernel_rfl) (fun _ _ _ h => h) (by rfl) (by assumption) ?_ ?_
              rotate_left
              · intro w' hSw; clear hSw; go_simp; (try with_reducible rfl)
              (try simp only [Act.put, List.setIfInBounds_toArray, List.set_cons_zero, List.set_cons_succ])
              refine tkW (v := ?_) 21 rfl (by kernel_rfl) (by kernel_rfl) (by kernel_rfl) (fun _ _ _ h => h) (by rfl) (by assumption) ?_ ?_
              rotate_left
              · intro w' hSw; clear hSw; go_simp; (try with_reducible rfl)
              (try simp only [Act.put, List.setIfInBounds_toArray, List.set_cons_zero, List.set_cons_succ])
              refine tkW (v := ?_) 22 rfl (by kernel_rfl) (by kernel_rfl) (by kernel_rfl) (fun _ _ _ h => h) (by rfl) (by assumption) ?_ ?_
              rotate_left
              · intro w' hSw; clear hSw; go_simp; (try with_reducible rfl)
              (try simp only [Act.put, List.setIfInBounds_toArray, List.set_cons_zero, List.set_cons_succ])
              refine tkW (v := ?_) 23 rfl (by kernel_rfl) (by kernel_rfl) (by kernel_rfl) (fun _ _ _ h => h) (by rfl) (by assumption) ?_ ?_
              rotate_left
              · intro w' hSw; clear hSw; go_simp; (try with_reducible rfl)
              (try simp only [Act.put, List.setIfInBounds_toArray, List.set_cons_zero, List.set_cons_succ])
              refine tkW (v := ?_) 24 rfl (by kernel_rfl) (by kernel_rfl) (by kernel_rfl) (fun _ _ _ h => h) (by rfl) (by assumption) ?_ ?_
              rotate_left
              · intro w' hSw; clear hSw; go_simp; (try with_reducible rfl)
              (try simp only [Act.put, List.setIfInBounds_toArray, List.set_cons_zero, List.set_cons_succ])
              refine tkW (v := ?_) 25 rfl (by kernel_rfl) (by kernel_rfl) (by kernel_rfl) (fun _ _ _ h => h) (by rfl) (by assumption) ?_ ?_
              rotate_left
              · intro w' hSw; (try dsimp only at hSw); have kg0 : w'.cell? ⟨w.heap.size, 0, none⟩ = some (.slice (some ⟨bs, os, none⟩) 3 cS) := (hSw.cell (p := ⟨w.heap.size, 0, none⟩) (by first | exact lt_g0 | omega)).trans g0; have kg1 : w'.cell? ⟨w.heap.size, 1, none⟩ = some (.slice ap np cp) := (hSw.cell (p := ⟨w.heap.size, 1, none⟩) (by first | exact lt_g1 | omega)).trans g1; have kg2 : w'.cell? ⟨w.heap.size + 1, 0, none⟩ = some (.slice ax nx cx) := (hSw.cell (p := ⟨w.heap.size + 1, 0, none⟩) (by first | exact lt_g2 | omega)).trans g2; have kg3 : w'.cell? ⟨w.heap.size + 1, 1, none⟩ = some (.slice aT nt cT) := (hSw.cell (p := ⟨w.heap.size + 1, 1, none⟩) (by first | exact lt_g3 | omega)).trans g3; have kgs0 : w'.cell? ⟨bs, os, none⟩ = some (.int .i64 (nx : Int)) := (hSw.cell (p := ⟨bs, os, none⟩) (by first | exact lt_gs0 | omega)).trans gs0; have kgs1 : w'.cell? ⟨bs, os + 1, none⟩ = some (.int .i64 (szN s 1 : Int)) := (hSw.cell (p := ⟨bs, os + 1, none⟩) (by first | exact lt_gs1 | omega)).trans gs1; have kgs2 : w'.cell? ⟨bs, os + 2, none⟩ = some (.int .i64 (nt : Int)) := (hSw.cell (p := ⟨bs, os + 2, none⟩) (by first | exact lt_gs2 | omega)).trans gs2; clear hSw; go_simp; (try with_reducible rfl)
              (try simp only [Act.put, List.setIfInBounds_toArray, List.set_cons_zero, List.set_cons_succ])
              refine tkW (v := ?_) 26 rfl (by kernel_rfl) (by kernel_rfl) (by kernel_rfl) (fun _ _ _ h => h) (by rfl) (by assumption) ?_ ?_
              rotate_left
              · intro w' hSw; clear hSw; go_simp; (try with_reducible rfl)
              (try simp only [Act.put, List.setIfInBounds_toArray, List.set_cons_zero, List.set_cons_succ])
              refine tkW (v := ?_) 27 rfl (by kernel_rfl) (by kernel_rfl) (by kernel_rfl) (fun _ _ _ h => h) (by rfl) (by assumption) ?_ ?_
              rotate_left
              · intro w' hSw; clear hSw; go_simp; (try with_reducible rfl)
              (try simp only [Act.put, List.setIfInBounds_toArray, List.set_cons_zero, List.set_cons_succ])
              refine tkW (v := ?_) 28 rfl (by kernel_rfl) (by kernel_rfl) (by kernel_rfl) (fun _ _ _ h => h) (by rfl) (by assumption) ?_ ?_
              rotate_left
              · intro w' hSw; (try dsimp only at hSw); have kg0 : w'.cell? ⟨w.heap.size, 0, none⟩ = some (.slice (some ⟨bs, os, none⟩) 3 cS) := (hSw.cell (p := ⟨w.heap.size, 0, none⟩) (by first | exact lt_g0 | omega)).trans g0; have kg1 : w'.cell? ⟨w.heap.size, 1, none⟩ = some (.slice ap np cp) := (hSw.cell (p := ⟨w.heap.size, 1, none⟩) (by first | exact lt_g1 | omega)).trans g1; have kg2 : w'.cell? ⟨w.heap.size + 1, 0, none⟩ = some (.slice ax nx cx) := (hSw.cell (p := ⟨w.heap.size + 1, 0, none⟩) (by first | exact lt_g2 | omega)).trans g2; have kg3 : w'.cell? ⟨w.heap.size + 1, 1, none⟩ = some (.slice aT nt cT) := (hSw.cell (p := ⟨w.heap.size + 1, 1, none⟩) (by first | exact lt_g3 | omega)).trans g3; have kgs0 : w'.cell? ⟨bs, os, none⟩ = some (.int .i64 (nx : Int)) := (hSw.cell (p := ⟨bs, os, none⟩) (by first | exact lt_gs0 | omega)).trans gs0; have kgs1 : w'.cell? ⟨bs, os + 1, none⟩ = some (.int .i64 (szN s 1 : Int)) := (hSw.cell (p := ⟨bs, os + 1, none⟩) (by first | exact lt_gs1 | omega)).trans gs1; have kgs2 : w'.cell? ⟨bs, os + 2, none⟩ = some (.int .i64 (nt : Int)) := (hSw.cell (p := ⟨bs, os + 2, none⟩) (by first | exact lt_gs2 | omega)).trans gs2; clear hSw; go_simp; (try with_reducible rfl)
              (try simp only [Act.put, List.setIfInBounds_toArray, List.set_cons_zero, List.set_cons_succ])
              refine tkW (v := ?_) 29 rfl (by kernel_rfl) (by kernel_rfl) (by kernel_rfl) (fun _ _ _ h => h) (by rfl) (by assumption) ?_ ?_
              rotate_left
              · intro w' hSw; clear hSw; go_simp; (try with_reducible rfl)
              (try simp only [Act.put, List.setIfInBounds_toArray, List.set_cons_zero, List.set_cons_succ])
              refine tkW (v := ?_) 30 rfl (by kernel_rfl) (by kernel_rfl) (by kernel_rfl) (fun _ _ _ h => h) (by rfl) (by assumption) ?_ ?_
              rotate_left
              · intro w' hSw; (try dsimp only at hSw); have kg0 : w'.cell? ⟨w.heap.size, 0, none⟩ = some (.slice (some ⟨bs, os, none⟩) 3 cS) := (hSw.cell (p := ⟨w.heap.size, 0, none⟩) (by first | exact lt_g0 | omega)).trans g0; have kg1 : w'.cell? ⟨w.heap.size, 1, none⟩ = some (.slice ap np cp) := (hSw.cell (p := ⟨w.heap.size, 1, none⟩) (by first | exact lt_g1 | omega)).trans g1; have kg2 : w'.cell? ⟨w.heap.size + 1, 0, none⟩ = some (.slice ax nx cx) := (hSw.cell (p := ⟨w.heap.size + 1, 0, none⟩) (by first | exact lt_g2 | omega)).trans g2; have kg3 : w'.cell? ⟨w.heap.size + 1, 1, none⟩ = some (.slice aT nt cT) := (hSw.cell (p := ⟨w.heap.size + 1, 1, none⟩) (by first | exact lt_g3 | omega)).trans g3; have kgs0 : w'.cell? ⟨bs, os, none⟩ = some (.int .i64 (nx : Int)) := (hSw.cell (p := ⟨bs, os, none⟩) (by first | exact lt_gs0 | omega)).trans gs0; have kgs1 : w'.cell? ⟨bs, os + 1, none⟩ = some (.int .i64 (szN s 1 : Int)) := (hSw.cell (p := ⟨bs, os + 1, none⟩) (by first | exact lt_gs1 | omega)).trans gs1; have kgs2 : w'.cell? ⟨bs, os + 2, none⟩ = some (.int .i64 (nt : Int)) := (hSw.cell (p := ⟨bs, os + 2, none⟩) (by first | exact lt_gs2 | omega)).trans gs2; clear hSw; go_simp; (try with_reducible rfl)
              (try simp only [Act.put, List.setIfInBounds_toArray, List.set_cons_zero, List.set_cons_succ])
              refine tkW (v := ?_) 31 rfl (by kernel_rfl) (by kernel_rfl) (by kernel_rfl) (fun _ _ _ h => h) (by rfl) (by assumption) ?_ ?_
              rotate_left
              · intro w' hSw; clear hSw; go_simp; (try with_reducible rfl)
              (try simp only [Act.put, List.setIfInBounds_toArray, List.set_cons_zero, List.set_cons_succ])
              refine tkW (v := ?_) 32 rfl (by kernel_rfl) (by kernel_rfl) (by kernel_rfl) (fun _ _ _ h => h) (by rfl) (by assumption) ?_ ?_
              rotate_left
              · intro w' hSw; clear hSw; go_simp; (try with_reducible rfl)
              (try simp only [Act.put, List.setIfInBounds_toArray, List.set_cons_zero, List.set_cons_succ])
              refine tkW (v := ?_) 33 rfl (by kernel_rfl) (by kernel_rfl) (by kernel_rfl) (fun _ _ _ h => h) (by rfl) (by assumption) ?_ ?_
              rotate_left
              · intro w' hSw; clear hSw; go_simp; (try with_reducible rfl)
              (try simp only [Act.put, List.setIfInBounds_toArray, List.set_cons_zero, List.set_cons_succ])
              refine tkW (v := ?_) 34 rfl (by kernel_rfl) (by kernel_rfl) (by kernel_rfl) (fun _ _ _ h => h) (by rfl) (by assumption) ?_ ?_
              rotate_left
              · intro w' hSw; clear hSw; go_simp; (try with_reducible rfl)
              (try simp only [Act.put, List.setIfInBounds_toArray, List.set_cons_zero, List.set_cons_succ])
              refine tkW (v := ?_) 35 rfl (by kernel_rfl) (by kernel_rfl) (by kernel_rfl) (fun _ _ _ h => h) (by rfl) (by assumption) ?_ ?_
              rotate_left
              · intro w' hSw; (try dsimp only at hSw); have kg0 : w'.cell? ⟨w.heap.size, 0, none⟩ = some (.slice (some ⟨bs, os, none⟩) 3 cS) := (hSw.cell (p := ⟨w.heap.size, 0, none⟩) (by first | exact lt_g0 | omega)).trans g0; have kg1 : w'.cell? ⟨w.heap.size, 1, none⟩ = some (.slice ap np cp) := (hSw.cell (p := ⟨w.heap.size, 1, none⟩) (by first | exact lt_g1 | omega)).trans g1; have kg2 : w'.cell? ⟨w.heap.size + 1, 0, none⟩ = some (.slice ax nx cx) := (hSw.cell (p := ⟨w.heap.size + 1, 0, none⟩) (by first | exact lt_g2 | omega)).trans g2; have kg3 : w'.cell? ⟨w.heap.size + 1, 1, none⟩ = some (.slice aT nt cT) := (hSw.cell (p := ⟨w.heap.size + 1, 1, none⟩) (by first | exact lt_g3 | omega)).trans g3; have kgs0 : w'.cell? ⟨bs, os, none⟩ = some (.int .i64 (nx : Int)) := (hSw.cell (p := ⟨bs, os, none⟩) (by first | exact lt_gs0 | omega)).trans gs0; have kgs1 : w'.cell? ⟨bs, os + 1, none⟩ = some (.int .i64 (szN s 1 : Int)) := (hSw.cell (p := ⟨bs, os + 1, none⟩) (by first | exact lt_gs1 | omega)).trans gs1; have kgs2 : w'.cell? ⟨bs, os + 2, none⟩ = some (.int .i64 (nt : Int)) := (hSw.cell (p := ⟨bs, os + 2, none⟩) (by first | exact lt_gs2 | omega)).trans gs2; clear hSw; go_simp; (try with_reducible rfl)
              (try simp only [Act.put, List.setIfInBounds_toArray, List.set_cons_zero, List.set_cons_succ])
              refine tkW (v := ?_) 36 rfl (by kernel_rfl) (by kernel_rfl) (by kernel_rfl) (fun _ _ _ h => h) (by rfl) (by assumption) ?_ ?_
              rotate_left
              · intro w' hSw; clear hSw; go_simp; (try with_reducible rfl)
              (try simp only [Act.put, List.setIfInBounds_toArray, List.set_cons_zero, List.set_cons_succ])
              refine tkW (v := ?_) 37 rfl (by kernel_rfl) (by kernel_rfl) (by kernel_rfl) (fun _ _ _ h => h) (by rfl) (by assumption) ?_ ?_
              rotate_left
              · intro w' hSw; clear hSw; go_simp; (try with_reducible rfl)
              (try simp only [Act.put, List.setIfInBounds_toArray, List.set_cons_zero, List.set_cons_succ])
              refine tkW (v := ?_) 38 rfl (by kernel_rfl) (by kernel_rfl) (by kernel_rfl) (fun _ _ _ h => h) (by rfl) (by assumption) ?_ ?_
              rotate_left
              · intro w' hSw; (try dsimp only at hSw); have kg0 : w'.cell? ⟨w.heap.size, 0, none⟩ = some (.slice (some ⟨bs, os, none⟩) 3 cS) := (hSw.cell (p := ⟨w.heap.size, 0, none⟩) (by first | exact lt_g0 | omega)).trans g0; have kg1 : w'.cell? ⟨w.heap.size, 1, none⟩ = some (.slice ap np cp) := (hSw.cell (p := ⟨w.heap.size, 1, none⟩) (by first | exact lt_g1 | omega)).trans g1; have kg2 : w'.cell? ⟨w.heap.size + 1, 0, none⟩ = some (.slice ax nx cx) := (hSw.cell (p := ⟨w.heap.size + 1, 0, none⟩) (by first | exact lt_g2 | omega)).trans g2; have kg3 : w'.cell? ⟨w.heap.size + 1, 1, none⟩ = some (.slice aT nt cT) := (hSw.cell (p := ⟨w.heap.size + 1, 1, none⟩) (by first | exact lt_g3 | omega)).trans g3; have kgs0 : w'.cell? ⟨bs, os, none⟩ = some (.int .i64 (nx : Int)) := (hSw.cell (p := ⟨bs, os, none⟩) (by first | exact lt_gs0 | omega)).trans gs0; have kgs1 : w'.cell? ⟨bs, os + 1, none⟩ = some (.int .i64 (szN s 1 : Int)) := (hSw.cell (p := ⟨bs, os + 1, none⟩) (by first | exact lt_gs1 | omega)).trans gs1; have kgs2 : w'.cell? ⟨bs, os + 2, none⟩ = some (.int .i64 (nt : Int)) := (hSw.cell (p := ⟨bs, os + 2, none⟩) (by first | exact lt_gs2 | omega)).trans gs2; clear hSw; go_simp; (try with_reducible rfl)
              (try simp only [Act.put, List.setIfInBounds_toArray, List.set_cons_zero, List.set_cons_succ])
              refine tkW (v := ?_) 39 rfl (by kernel_rfl) (by kernel_rfl) (by kernel_rfl) (fun _ _ _ h => h) (by rfl) (by assumption) ?_ ?_
              rotate_left
              · intro w' hSw; clear hSw; go_simp; (try with_reducible rfl)
              (try simp only [Act.put, List.setIfInBounds_toArray, List.set_cons_zero, List.set_cons_succ])
              refine tkW (v := ?_) 40 rfl (by kernel_rfl) (by kernel_rfl) (by kernel_rfl) (fun _ _ _ h => h) (by rfl) (by assumption) ?_ ?_
              rotate_left
              · intro w' hSw; (try dsimp only at hSw); have kg0 : w'.cell? ⟨w.heap.size, 0, none⟩ = some (.slice (some ⟨bs, os, none⟩) 3 cS) := (hSw.cell (p := ⟨w.heap.size, 0, none⟩) (by first | exact lt_g0 | omega)).trans g0; have kg1 : w'.cell? ⟨w.heap.size, 1, none⟩ = some (.slice ap np cp) := (hSw.cell (p := ⟨w.heap.size, 1, none⟩) (by first | exact lt_g1 | omega)).trans g1; have kg2 : w'.cell? ⟨w.heap.size + 1, 0, none⟩ = some (.slice ax nx cx) := (hSw.cell (p := ⟨w.heap.size + 1, 0, none⟩) (by first | exact lt_g2 | omega)).trans g2; have kg3 : w'.cell? ⟨w.heap.size + 1, 1, none⟩ = some (.slice aT nt cT) := (hSw.cell (p := ⟨w.heap.size + 1, 1, none⟩) (by first | exact lt_g3 | omega)).trans g3; have kgs0 : w'.cell? ⟨bs, os, none⟩ = some (.int .i64 (nx : Int)) := (hSw.cell (p := ⟨bs, os, none⟩) (by first | exact lt_gs0 | omega)).trans gs0; have kgs1 : w'.cell? ⟨bs, os + 1, none⟩ = some (.int .i64 (szN s 1 : Int)) := (hSw.cell (p := ⟨bs, os + 1, none⟩) (by first | exact lt_gs1 | omega)).trans gs1; have kgs2 : w'.cell? ⟨bs, os + 2, none⟩ = some (.int .i64 (nt : Int)) := (hSw.cell (p := ⟨bs, os + 2, none⟩) (by first | exact lt_gs2 | omega)).trans gs2; clear hSw; go_simp; (try with_reducible rfl)
              (try simp only [Act.put, List.setIfInBounds_toArray, List.set_cons_zero, List.set_cons_succ])
              refine tkW (v := ?_) 41 rfl (by kernel_rfl) (by kernel_rfl) (by kernel_rfl) (fun _ _ _ h => h) (by rfl) (by assumption) ?_ ?_
              rotate_left
              · intro w' hSw; clear hSw; go_simp; (try with_reducible rfl)
              (try simp only [Act.put, List.setIfInBounds_toArray, List.set_cons_zero, List.set_cons_succ])
              refine tkW (v := ?_) 42 rfl (by kernel_rfl) (by kernel_rfl) (by kernel_rfl) (fun _ _ _ h => h) (by rfl) (by assumption) ?_ ?_
              rotate_left
              · intro w' hSw; clear hSw; go_simp; (try with_reducible rfl)
              (try simp only [Act.put, List.setIfInBounds_toArray, List.set_cons_zero, List.set_cons_succ])
              refine wpAnyH_done (by kernel_rfl) ?_ _
              have HN4 := Lib.hid hHeld
              have z4 := HN4.out.size
              have Hbw4 : Hid (Below w.heap.size w w4) := Lib.hid (Hb1.out.trans (HN4.out.mono (by omega)))
              have f0 : w4.cell? ⟨w.heap.size, 0, none⟩ = some (.slice (some ⟨bs, os, none⟩) 3 cS) := (HN4.out.cell (p := ⟨w.heap.size, 0, none⟩) lt_g0).trans g0
              have f1 : w4.cell? ⟨w.heap.size, 1, none⟩ = some (.slice ap np cp) := (HN4.out.cell (p := ⟨w.heap.size, 1, none⟩) lt_g0).trans g1
              have f2 : w4.cell? ⟨w.heap.size + 1, 0, none⟩ = some (.slice ax nx cx) := (HN4.out.cell (p := ⟨w.heap.size + 1, 0, none⟩) lt_g2).trans g2
              have f3 : w4.cell? ⟨w.heap.size + 1, 1, none⟩ = some (.slice aT nt cT) := (HN4.out.cell (p := ⟨w.heap.size + 1, 1, none⟩) lt_g2).trans g3
              have e0 : w4.cell? ⟨bs, os, none⟩ = some (.int .i64 (nx : Int)) := (HN4.out.cell (p := ⟨bs, os, none⟩) lt_gs0).trans gs0
              have e1 : w4.cell? ⟨bs, os + 1, none⟩ = some (.int .i64 (szN s 1 : Int)) := (HN4.out.cell (p := ⟨bs, os + 1, none⟩) lt_gs0).trans gs1
              have e2 : w4.cell? ⟨bs, os + 2, none⟩ = some (.int .i64 (nt : Int)) := (HN4.out.cell (p := ⟨bs, os + 2, none⟩) lt_gs0).trans gs2
              have l4 : w.heap.size + 1 < w4.heap.size := by omega
              have l4b : bs < w4.heap.size := by omega
              clear hHeld HFew HSh HR g0 g1 g2 g3 gs0 gs1 gs2 gs0x gs1x gs2x hb2 hb4 hN
              go_wp2_with fail
              ((with_reducible refine (HF.out _ Hbw4.out).mono ?_); rintro e w5 ⟨vL, xsL, rfl, hrowL, hosL, hc5, hu5⟩)
              obtain ⟨gL, cL, rfl, hgLB, hgL, hcL⟩ := own_cellsS hrowL (by omega)
              have Hb5 : Hid (Below w4.heap.size w4 w5) := Lib.hid (hc5.below (Nat.le_refl _) (fun k hk => by cases hk))
              have z5 := Hb5.out.size
              obtain ⟨a1, c1, hzx, hr1, _⟩ := hosL.rd (i := 1) (n := szN s 1) (by simp [vals]) (by simp only [vals, List.getElem?_map, List.getElem?_range (show 1 < 2 + 1 by omega), Option.map_some, Option.getD_some]; exact Hv1'.out) (by omega)
              have hvv : (vals s p x (2 + 1))[1]?.getD [] = val s p x 1 := by simp [vals]
              rw [hvv] at hr1
              have f0 : w5.cell? ⟨w.heap.size, 0, none⟩ = some (.slice (some ⟨bs, os, none⟩) 3 cS) := (Hb5.out.cell (p := ⟨w.heap.size, 0, none⟩) (by show w.heap.size < _; omega)).trans f0
              have f1 : w5.cell? ⟨w.heap.size, 1, none⟩ = some (.slice ap np cp) := (Hb5.out.cell (p := ⟨w.heap.size, 1, none⟩) (by show w.heap.size < _; omega)).trans f1
              have f2 : w5.cell? ⟨w.heap.size + 1, 0, none⟩ = some (.slice ax nx cx) := (Hb5.out.cell (p := ⟨w.heap.size + 1, 0, none⟩) l4).trans f2
              have f3 : w5.cell? ⟨w.heap.size + 1, 1, none⟩ = some (.slice aT nt cT) := (Hb5.out.cell (p := ⟨w.heap.size + 1, 1, none⟩) l4).trans f3
              have hl1 : w5.cell? ⟨gL, 1, none⟩ = some (.slice a1 (szN s 1) c1) := hcL _ _ hzx
              have Hbw5 : Hid (Below w.heap.size w w5) := Lib.hid (Hbw4.out.trans (Hb5.out.mono (by omega)))
              have HR1 := Lib.hid hr1
              clear hrowL hosL hcL hc5 hu5 hzx hr1 hvv HF
              go_wp2_with fail
              ((with_reducible refine (HG.out _ Hbw5.out).mono ?_); rintro e w6 ⟨vG, rfl, hoG, hb6⟩)
              unfold Ow at hoG
              rw [Hgl.out] at hoG
              have hnp0 : 0 < np := by have := Hnp.out; omega
              obtain ⟨gG, cG, rfl, hgGB, hgG, hcG⟩ := own_cellsS hoG hnp0
              have z6 := hb6.size
              have HcG : Hid (∀ j, j < np → w6.cell? ⟨gG, j, none⟩ = some (.int .i64 ((gradS s p x t 2)[j]?.getD 0))) := Lib.hid (fun j hj => hcG j _ (by
                rw [List.getElem?_map]
                have h9 : j < (gradS s p x t 2).length := by rw [Hgl.out]; exact hj
                rw [List.getElem?_eq_getElem h9]; rfl))
              have HR6 := Lib.hid (HR1.out.kept hb6)
              have f0 : w6.cell? ⟨w.heap.size, 0, none⟩ = some (.slice (some ⟨bs, os, none⟩) 3 cS) := (hb6.cell (p := ⟨w.heap.size, 0, none⟩) (by show w.heap.size < _; omega)).trans f0
              have f1 : w6.cell? ⟨w.heap.size, 1, none⟩ = some (.slice ap np cp) := (hb6.cell (p := ⟨w.heap.size, 1, none⟩) (by show w.heap.size < _; omega)).trans f1
              have e0 : w6.cell? ⟨bs, os, none⟩ = some (.int .i64 (nx : Int)) := (hb6.cell (p := ⟨bs, os, none⟩) (by show bs < _; omega)).trans ((Hb5.out.cell (p := ⟨bs, os, none⟩) l4b).trans e0)
              have e1 : w6.cell? ⟨bs, os + 1, none⟩ = some (.int .i64 (szN s 1 : Int)) := (hb6.cell (p := ⟨bs, os + 1, none⟩) (by show bs < _; omega)).trans ((Hb5.out.cell (p := ⟨bs, os + 1, none⟩) l4b).trans e1)
              have e2 : w6.cell? ⟨bs, os + 2, none⟩ = some (.int .i64 (nt : Int)) := (hb6.cell (p := ⟨bs, os + 2, none⟩) (by show bs < _; omega)).trans ((Hb5.out.cell (p := ⟨bs, os + 2, none⟩) l4b).trans e2)
              have hl1 : w6.cell? ⟨gL, 1, none⟩ = some (.slice a1 (szN s 1) c1) := (hb6.cell (p := ⟨gL, 1, none⟩) (by show gL < _; omega)).trans hl1
              have Hbw6 : Hid (Below w.heap.size w w6) := Lib.hid (Hbw5.out.trans (hb6.mono (by omega)))
              clear hoG hcG hb6 HG HR1 f2 f3
              generalize szN s 1 = q1 at *
              generalize gradS s p x t 2 = G at *
              obtain ⟨b1, o1, rfl, _, _⟩ := HR6.out.at (i := 0) (by omega)
              go_wp2
              go_quiet (fail)
              go_wp2
              have hA : ∃ A, nx * q1 = A := ⟨_, rfl⟩
              obtain ⟨A, hA⟩ := hA
              obtain ⟨C, hC⟩ : ∃ C, q1 * nt = C := ⟨_, rfl⟩
              rw [hA, hC] at Hnp
              rw [hA] at HK2 HK3
              have hAi : (nx : Int) * (q1 : Int) = (A : Int) := by rw [← hA]; simp
              have hAc : nx * q1 = A := hA
              have HA := Lib.hid hA
              have HC := Lib.hid hC
              clear hA hC hAc
              have hnpe := Hnp.out
              obtain ⟨M, hM⟩ : ∃ M, A + q1 = M := ⟨_, rfl⟩
              have hMi : (A : Int) + (q1 : Int) = (M : Int) := by omega
              have hwA : IntKind.i64.wrap (A : Int) = (A : Int) := by rw [IntKind.wrap_i64]; omega
              have hwM : IntKind.i64.wrap (M : Int) = (M : Int) := by rw [IntKind.wrap_i64]; omega
              have HM := Lib.hid hM
              have hMle : M + C + nt = np := by omega
              clear hM hnpe
              go_loopw [117] (fun j wi => ∃ i : Nat, i ≤ q1 ∧ j = .int .i64 i ∧ Hid (Drew w6 wi)) (fun j _ => q1 - (intOf j).toNat)
              case atStart => exact ⟨0, Nat.zero_le _, rfl, Lib.hid (by first | exact Drew.refl _ | exact (Drew.refl _).drew | exact (Drew.refl _).drewN _)⟩
              case round =>
                obtain ⟨i, hi, rfl, hq⟩ := hrel
                obtain ⟨nd, rfl⟩ := hq.out
                by_cases hlt : i < q1
                · obtain ⟨_, _, ee, _, hcv⟩ := HR6.out.at hlt
                  cases ee
                  have hi0 : (0 : Int) ≤ (i : Int) := by omega
                  have hiq : (i : Int) < (q1 : Int) := by omega
                  by_cases hz : (val s p x 1)[i]?.getD 0 = 0
                  · rw [hz] at hcv
                    have K1 := Lib.hid (HK1.out i hlt hz)
                    have K2 := Lib.hid (HK2.out i hlt hz)
                    have K3 := HK3.out i hlt hz
                    obtain ⟨I, hI⟩ : ∃ I, i * nx = I := ⟨_, rfl⟩
                    have hIi : (i : Int) * (nx : Int) = (I : Int) := by rw [← hI]; simp
                    have hIA : I + nx ≤ A := by
                      have h5 : (i + 1) * nx ≤ q1 * nx := Nat.mul_le_mul_right _ (by omega)
                      have h6 : q1 * nx = A := by rw [Nat.mul_comm]; exact HA.out
                      rw [Nat.add_mul, hI, h6] at h5
                      omega
                    rw [hI] at K1
                    clear hI hz
                    have hwI : IntKind.i64.wrap (I : Int) = (I : Int) := by rw [IntKind.wrap_i64]; omega
                    go_wp2
                    go_loopw [125] (fun j wi => ∃ k : Nat, k ≤ nx ∧ j = .int .i64 k ∧ Hid (Drew w6 wi)) (fun j _ => nx - (intOf j).toNat)
                    case atStart => exact ⟨0, Nat.zero_le _, rfl, ⟨nd, rfl⟩⟩
                    case round =>
                      rename World => wk
                      obtain ⟨k, hk, rfl, hqk⟩ := hrel
                      obtain ⟨nk, rfl⟩ := hqk.out
                      by_cases hltk : k < nx
                      · obtain ⟨X, hX⟩ : ∃ X, I + k = X := ⟨_, rfl⟩
                        have hXi : (I : Int) + (k : Int) = (X : Int) := by omega
                        have hwX : IntKind.i64.wrap (X : Int) = (X : Int) := by rw [IntKind.wrap_i64]; omega
                        have hXn : (X : Int) < (np : Int) := by omega
                        have hX0 : (0 : Int) ≤ (X : Int) := by omega
                        have hcg := HcG.out X (by omega)
                        have hg0 := K1.out k hltk
                        rw [hX] at hg0
                        rw [hg0] at hcg
                        clear hg0 hX
                        go_wp2
                        go_roundw
                        case rel => exact ⟨k + 1, by omega, by go_num, ⟨nk, rfl⟩⟩
                        case measure => simp [intOf]; omega
                      · obtain rfl : k = nx := by omega
                        go_wp2
                        go_loopw [139] (fun j wi => ∃ o : Nat, o ≤ nt ∧ j = .int .i64 o ∧ Hid (Drew w6 wi)) (fun j _ => nt - (intOf j).toNat)
                        case atStart => exact ⟨0, Nat.zero_le _, rfl, ⟨nk, rfl⟩⟩
                        case round =>
                          rename World => wo
                          obtain ⟨o, ho, rfl, hqo⟩ := hrel
                          obtain ⟨no, rfl⟩ := hqo.out
                          by_cases hlto : o < nt
                          · obtain ⟨Y, hY⟩ : ∃ Y, o * q1 = Y := ⟨_, rfl⟩
                            have hYi : (o : Int) * (q1 : Int) = (Y : Int) := by rw [← hY]; simp
                            have hYC : Y + q1 ≤ C := by
                              have h5 : (o + 1) * q1 ≤ nt * q1 := Nat.mul_le_mul_right _ (by omega)
                              have h6 : nt * q1 = C := by rw [Nat.mul_comm]; exact HC.out
                              rw [Nat.add_mul, hY, h6] at h5
                              omega
                            have hg0 := K2.out o hlto
                            rw [HM.out, hY] at hg0
                            clear hY
                            obtain ⟨Z, hZ⟩ : ∃ Z, M + Y = Z := ⟨_, rfl⟩
                            obtain ⟨V, hV⟩ : ∃ V, Z + i = V := ⟨_, rfl⟩
                            have hZi : (M : Int) + (Y : Int) = (Z : Int) := by omega
                            have hVi : (Z : Int) + (i : Int) = (V : Int) := by omega
                            have hwY : IntKind.i64.wrap (Y : Int) = (Y : Int) := by rw [IntKind.wrap_i64]; omega
                            have hwZ : IntKind.i64.wrap (Z : Int) = (Z : Int) := by rw [IntKind.wrap_i64]; omega
                            have hwV : IntKind.i64.wrap (V : Int) = (V : Int) := by rw [IntKind.wrap_i64]; omega
                            have hVn : (V : Int) < (np : Int) := by omega
                            have hV0 : (0 : Int) ≤ (V : Int) := by omega
                            have hcg := HcG.out V (by omega)
                            rw [hZ, hV] at hg0
                            rw [hg0] at hcg
                            clear hg0 hZ hV
                            go_wp2
                            go_roundw
                            case rel => exact ⟨o + 1, by omega, by go_num, ⟨no, rfl⟩⟩
                            case measure => simp [intOf]; omega
                          · obtain rfl : o = nt := by omega
                            obtain ⟨X, hX⟩ : ∃ X, A + i = X := ⟨_, rfl⟩
                            have hXi : (A : Int) + (i : Int) = (X : Int) := by omega
                            have hwX : IntKind.i64.wrap (X : Int) = (X : Int) := by rw [IntKind.wrap_i64]; omega
                            have hXn : (X : Int) < (np : Int) := by omega
                            have hX0 : (0 : Int) ≤ (X : Int) := by omega
                            have hcg := HcG.out X (by omega)
                            rw [hX] at K3
                            rw [K3] at hcg
                            clear hX K3
                            go_wp2
                            go_roundw
                            case rel => exact ⟨i + 1, by omega, by go_num, ⟨no, rfl⟩⟩
                            case measure => simp [intOf]; omega
                  · have hne : ((val s p x 1)[i]?.getD 0 != 0) = true := by simpa using hz
                    have hne2 : ((val s p x 1)[i]?.getD 0 == 0) = false := by simpa using hz
                    generalize (val s p x 1)[i]?.getD 0 = z at *
                    go_wp2
                    go_roundw
                    case rel => exact ⟨i + 1, by omega, by go_num, ⟨nd, rfl⟩⟩
                    case measure => simp [intOf]; omega
                · obtain rfl : i = q1 := by omega
                  go_wp2
                  go_ret
                  exact ⟨rfl, by have := Hbw6.out; exact Go.Proofs.Ytdamenbpgkhiiaa.Below.drewN this _⟩
            · have hne : ((nt : Int) != (szN s 2 : Int)) = true := by simpa using (by omega : ¬ (nt : Int) = szN s 2)
              have hne2 : ((nt : Int) == (szN s 2 : Int)) = false := by simpa using (by omega : ¬ (nt : Int) = szN s 2)
              have hne' : ((nx : Int) != (szN s 0 : Int)) = false := by simpa using (by omega : (nx : Int) = szN s 0)
              clear hS hP hX hT hfew hfe hr hs0 hs1 hs2 hsl
              subst h3
              subst hx0
              generalize szN s 0 = nx at *
              generalize szN s 2 = q2 at *
              have gs0x := hcs
              have gs2x := hcs2
              clear hcs hcs2
              go_enter Try.func8, Try.ntmps8
              go_wp2_with fail
              ((with_reducible refine (HAw.out _).mono ?_); rintro e w1 ⟨rfl, hb1⟩)
              obtain ⟨hc1, hf1⟩ := bcell hb1
              have hz1 := hb1.size
              simp at hz1 hc1 hf1
              have g0 : w1.cell? ⟨w.heap.size, 0, none⟩ = some (.slice (some ⟨bs, os, none⟩) 3 cS) := by rw [hc1 _ _ (by omega)]; go_simp
              have g1 : w1.cell? ⟨w.heap.size, 1, none⟩ = some (.slice ap np cp) := by rw [hc1 _ _ (by omega)]; go_simp
              have g2 : w1.cell? ⟨w.heap.size + 1, 0, none⟩ = some (.slice ax nx cx) := by rw [hc1 _ _ (by omega)]; go_simp
              have g3 : w1.cell? ⟨w.heap.size + 1, 1, none⟩ = some (.slice aT nt cT) := by rw [hc1 _ _ (by omega)]; go_simp
              have gs0 : w1.cell? ⟨bs, os, none⟩ = some (.int .i64 (nx : Int)) := by rw [hc1 _ _ (by omega), World.cell?_alloc_past _ _ _ (by (first | omega | (simp; done) | (simp; omega))), World.cell?_alloc_past _ _ _ hbs]; exact gs0x
              have gs2 : w1.cell? ⟨bs, os + 2, none⟩ = some (.int .i64 (q2 : Int)) := by rw [hc1 _ _ (by omega), World.cell?_alloc_past _ _ _ (by (first | omega | (simp; done) | (simp; omega))), World.cell?_alloc_past _ _ _ hbs]; exact gs2x
              have lt1 : w.heap.size + 1 < w1.heap.size := by omega
              have lt_g0 : w.heap.size < w1.heap.size := by omega
              have lt_g1 := lt_g0
              have lt_g2 := lt1
              have lt_g3 := lt1
              have lt_gs0 : bs < w1.heap.size := by omega
              have lt_gs2 : bs < w1.heap.size := by omega
              have Hb1 : Hid (Below w.heap.size w w1) := Lib.hid (by (repeat first | assumption | exact Below.refl _ _ | refine Below.drew ?_ | refine Below.drewN ?_ _ | refine Below.alloc ?_ (by (first | omega | (simp; done) | (simp; omega))) _ | refine Below.setCell ?_ (by (first | omega | (simp; done) | (simp; omega))) _ | refine Below.trans ?_ (Below.mono (by assumption) (by (first | omega | (simp; done) | (simp; omega))))))
              clear hb1 hc1 hf1 HAw
              go_wp2_with fail
              refine wp_region_held_drew (S := fun w' => Below w1.heap.size w1 w') (by kernel_rfl) ?_ (fun hHeld => ?_)
              · exact (Below.refl _ _).drew
              refine tkW (v := ?_) 0 rfl (by kernel_rfl) (by kernel_rfl) (by kernel_rfl) (fun _ _ _ h => h) (by rfl) (by assumption) ?_ ?_
              rotate_left
              · intro w' hSw; (try dsimp only at hSw); have kg0 : w'.cell? ⟨w.heap.size, 0, none⟩ = some (.slice (some ⟨bs, os, none⟩) 3 cS) := (hSw.cell (p := ⟨w.heap.size, 0, none⟩) (by first | exact lt_g0 | omega)).trans g0; have kg1 : w'.cell? ⟨w.heap.size, 1, none⟩ = some (.slice ap np cp) := (hSw.cell (p := ⟨w.heap.size, 1, none⟩) (by first | exact lt_g1 | omega)).trans g1; have kg2 : w'.cell? ⟨w.heap.size + 1, 0, none⟩ = some (.slice ax nx cx) := (hSw.cell (p := ⟨w.heap.size + 1, 0, none⟩) (by first | exact lt_g2 | omega)).trans g2; have kg3 : w'.cell? ⟨w.heap.size + 1, 1, none⟩ = some (.slice aT nt cT) := (hSw.cell (p := ⟨w.heap.size + 1, 1, none⟩) (by first | exact lt_g3 | omega)).trans g3; have kgs0 : w'.cell? ⟨bs, os, none⟩ = some (.int .i64 (nx : Int)) := (hSw.cell (p := ⟨bs, os, none⟩) (by first | exact lt_gs0 | omega)).trans gs0; have kgs2 : w'.cell? ⟨bs, os + 2, none⟩ = some (.int .i64 (q2 : Int)) := (hSw.cell (p := ⟨bs, os + 2, none⟩) (by first | exact lt_gs2 | omega)).trans gs2; clear hSw; go_simp; (try with_reducible rfl)
              (try simp only [Act.put, List.setIfInBounds_toArray, List.set_cons_zero, List.set_cons_succ])
              refine tkC 1 rfl (by kernel_rfl) (by rfl) (fun K hK => ?_)
              go_simp
              (go_at_call 29; refine (HFew.out _ (Hb1.out.trans (hHeld.mono (by omega)))).mono ?_; rintro e w2 ⟨rfl, hb2⟩; have hN := hHeld.trans (hb2.mono (by have := hHeld.size; omega)))
              (try dsimp only)
              refine hK.out _ _ ?_ (fun hHeld => ?_)
              · exact hN
              clear hK K
              (try simp only [Act.put, List.setIfInBounds_toArray, List.set_cons_zero, List.set_cons_succ])
              refine tkW (v := ?_) 2 rfl (by kernel_rfl) (by kernel_rfl) (by kernel_rfl) (fun _ _ _ h => h) (by rfl) (by assumption) ?_ ?_
              rotate_left
              · intro w' hSw; clear hSw; go_simp; (try with_reducible rfl)
              (try simp only [Act.put, List.setIfInBounds_toArray, List.set_cons_zero, List.set_cons_succ])
              refine tkW (v := ?_) 3 rfl (by kernel_rfl) (by kernel_rfl) (by kernel_rfl) (fun _ _ _ h => h) (by rfl) (by assumption) ?_ ?_
              rotate_left
              · intro w' hSw; clear hSw; go_simp; (try with_reducible rfl)
              (try simp only [Act.put, List.setIfInBounds_toArray, List.set_cons_zero, List.set_cons_succ])
              refine tkW (v := ?_) 4 rfl (by kernel_rfl) (by kernel_rfl) (by kernel_rfl) (fun _ _ _ h => h) (by rfl) (by assumption) ?_ ?_
              rotate_left
              · intro w' hSw; clear hSw; go_simp; (try with_reducible rfl)
              (try simp only [Act.put, List.setIfInBounds_toArray, List.set_cons_zero, List.set_cons_succ])
              refine tkW (v := ?_) 5 rfl (by kernel_rfl) (by kernel_rfl) (by kernel_rfl) (fun _ _ _ h => h) (by rfl) (by assumption) ?_ ?_
              rotate_left
              · intro w' hSw; (try dsimp only at hSw); have kg0 : w'.cell? ⟨w.heap.size, 0, none⟩ = some (.slice (some ⟨bs, os, none⟩) 3 cS) := (hSw.cell (p := ⟨w.heap.size, 0, none⟩) (by first | exact lt_g0 | omega)).trans g0; have kg1 : w'.cell? ⟨w.heap.size, 1, none⟩ = some (.slice ap np cp) := (hSw.cell (p := ⟨w.heap.size, 1, none⟩) (by first | exact lt_g1 | omega)).trans g1; have kg2 : w'.cell? ⟨w.heap.size + 1, 0, none⟩ = some (.slice ax nx cx) := (hSw.cell (p := ⟨w.heap.size + 1, 0, none⟩) (by first | exact lt_g2 | omega)).trans g2; have kg3 : w'.cell? ⟨w.heap.size + 1, 1, none⟩ = some (.slice aT nt cT) := (hSw.cell (p := ⟨w.heap.size + 1, 1, none⟩) (by first | exact lt_g3 | omega)).trans g3; have kgs0 : w'.cell? ⟨bs, os, none⟩ = some (.int .i64 (nx : Int)) := (hSw.cell (p := ⟨bs, os, none⟩) (by first | exact lt_gs0 | omega)).trans gs0; have kgs2 : w'.cell? ⟨bs, os + 2, none⟩ = some (.int .i64 (q2 : Int)) := (hSw.cell (p := ⟨bs, os + 2, none⟩) (by first | exact lt_gs2 | omega)).trans gs2; clear hSw; go_simp; (try with_reducible rfl)
              (try simp only [Act.put, List.setIfInBounds_toArray, List.set_cons_zero, List.set_cons_succ])
              refine tkW (v := ?_) 6 rfl (by kernel_rfl) (by kernel_rfl) (by kernel_rfl) (fun _ _ _ h => h) (by rfl) (by assumption) ?_ ?_
              rotate_left
              · intro w' hSw; clear hSw; go_simp; (try with_reducible rfl)
              (try simp only [Act.put, List.setIfInBounds_toArray, List.set_cons_zero, List.set_cons_succ])
              refine tkW (v := ?_) 7 rfl (by kernel_rfl) (by kernel_rfl) (by kernel_rfl) (fun _ _ _ h => h) (by rfl) (by assumption) ?_ ?_
              rotate_left
              · intro w' hSw; (try dsimp only at hSw); have kg0 : w'.cell? ⟨w.heap.size, 0, none⟩ = some (.slice (some ⟨bs, os, none⟩) 3 cS) := (hSw.cell (p := ⟨w.heap.size, 0, none⟩) (by first | exact lt_g0 | omega)).trans g0; have kg1 : w'.cell? ⟨w.heap.size, 1, none⟩ = some (.slice ap np cp) := (hSw.cell (p := ⟨w.heap.size, 1, none⟩) (by first | exact lt_g1 | omega)).trans g1; have kg2 : w'.cell? ⟨w.heap.size + 1, 0, none⟩ = some (.slice ax nx cx) := (hSw.cell (p := ⟨w.heap.size + 1, 0, none⟩) (by first | exact lt_g2 | omega)).trans g2; have kg3 : w'.cell? ⟨w.heap.size + 1, 1, none⟩ = some (.slice aT nt cT) := (hSw.cell (p := ⟨w.heap.size + 1, 1, none⟩) (by first | exact lt_g3 | omega)).trans g3; have kgs0 : w'.cell? ⟨bs, os, none⟩ = some (.int .i64 (nx : Int)) := (hSw.cell (p := ⟨bs, os, none⟩) (by first | exact lt_gs0 | omega)).trans gs0; have kgs2 : w'.cell? ⟨bs, os + 2, none⟩ = some (.int .i64 (q2 : Int)) := (hSw.cell (p := ⟨bs, os + 2, none⟩) (by first | exact lt_gs2 | omega)).trans gs2; clear hSw; go_simp; (try with_reducible rfl)
              (try simp only [Act.put, List.setIfInBounds_toArray, List.set_cons_zero, List.set_cons_succ])
              refine tkC 8 rfl (by kernel_rfl) (by rfl) (fun K hK => ?_)
              go_simp
              refine hK.out _ _ ?_ (fun hHeld => ?_)
              · exact hHeld.alloc (by have := hHeld.size; omega) _
              clear hK K
              (try simp only [Act.put, List.setIfInBounds_toArray, List.set_cons_zero, List.set_cons_succ])
              refine tkC 9 rfl (by kernel_rfl) (by rfl) (fun K hK => ?_)
              go_simp
              (go_at_call 30; refine (HSh.out _ _ (World.cell?_alloc_at _ _ _ _ rfl) (World.cell?_alloc_at _ _ _ _ rfl)).mono ?_; rintro e w3 ⟨rfl, rfl⟩; have hN := hHeld)
              (try dsimp only)
              refine hK.out _ _ ?_ (fun hHeld => ?_)
              · exact hN
              clear hK K
              (try simp only [Act.put, List.setIfInBounds_toArray, List.set_cons_zero, List.set_cons_succ])
              refine tkW (v := ?_) 10 rfl (by kernel_rfl) (by kernel_rfl) (by kernel_rfl) (fun _ _ _ h => h) (by rfl) (by assumption) ?_ ?_
              rotate_left
              · intro w' hSw; clear hSw; go_simp; (try with_reducible rfl)
              (try simp only [Act.put, List.setIfInBounds_toArray, List.set_cons_zero, List.set_cons_succ])
              refine tkW (v := ?_) 11 rfl (by kernel_rfl) (by kernel_rfl) (by kernel_rfl) (fun _ _ _ h => h) (by rfl) (by assumption) ?_ ?_
              rotate_left
              · intro w' hSw; clear hSw; go_simp; (try with_reducible rfl)
              (try simp only [Act.put, List.setIfInBounds_toArray, List.set_cons_zero, List.set_cons_succ])
              refine tkW (v := ?_) 12 rfl (by kernel_rfl) (by kernel_rfl) (by kernel_rfl) (fun _ _ _ h => h) (by rfl) (by assumption) ?_ ?_
              rotate_left
              · intro w' hSw; clear hSw; go_simp; (try with_reducible rfl)
              (try simp only [Act.put, List.setIfInBounds_toArray, List.set_cons_zero, List.set_cons_succ])
              refine tkW (v := ?_) 13 rfl (by kernel_rfl) (by kernel_rfl) (by kernel_rfl) (fun _ _ _ h => h) (by rfl) (by assumption) ?_ ?_
              rotate_left
              · intro w' hSw; (try dsimp only at hSw); have kg0 : w'.cell? ⟨w.heap.size, 0, none⟩ = some (.slice (some ⟨bs, os, none⟩) 3 cS) := (hSw.cell (p := ⟨w.heap.size, 0, none⟩) (by first | exact lt_g0 | omega)).trans g0; have kg1 : w'.cell? ⟨w.heap.size, 1, none⟩ = some (.slice ap np cp) := (hSw.cell (p := ⟨w.heap.size, 1, none⟩) (by first | exact lt_g1 | omega)).trans g1; have kg2 : w'.cell? ⟨w.heap.size + 1, 0, none⟩ = some (.slice ax nx cx) := (hSw.cell (p := ⟨w.heap.size + 1, 0, none⟩) (by first | exact lt_g2 | omega)).trans g2; have kg3 : w'.cell? ⟨w.heap.size + 1, 1, none⟩ = some (.slice aT nt cT) := (hSw.cell (p := ⟨w.heap.size + 1, 1, none⟩) (by first | exact lt_g3 | omega)).trans g3; have kgs0 : w'.cell? ⟨bs, os, none⟩ = some (.int .i64 (nx : Int)) := (hSw.cell (p := ⟨bs, os, none⟩) (by first | exact lt_gs0 | omega)).trans gs0; have kgs2 : w'.cell? ⟨bs, os + 2, none⟩ = some (.int .i64 (q2 : Int)) := (hSw.cell (p := ⟨bs, os + 2, none⟩) (by first | exact lt_gs2 | omega)).trans gs2; clear hSw; go_simp; (try with_reducible rfl)
              (try simp only [Act.put, List.setIfInBounds_toArray, List.set_cons_zero, List.set_cons_succ])
              refine tkC 14 rfl (by kernel_rfl) (by rfl) (fun K hK => ?_)
              go_simp
              (go_at_call 31; refine (HR.out _ (Hb1.out.trans (hHeld.mono (by omega)))).mono ?_; rintro e w4 ⟨rfl, hb4⟩; have hN := hHeld.trans (hb4.mono (by have := hHeld.size; omega)))
              (try dsimp only)
              refine hK.out _ _ ?_ (fun hHeld => ?_)
              · exact hN
              clear hK K
              (try simp only [Act.put, List.setIfInBounds_toArray, List.set_cons_zero, List.set_cons_succ])
              refine tkW (v := ?_) 15 rfl (by kernel_rfl) (by kernel_rfl) (by kernel_rfl) (fun _ _ _ h => h) (by rfl) (by assumption) ?_ ?_
              rotate_left
              · intro w' hSw; clear hSw; go_simp; (try with_reducible rfl)
              (try simp only [Act.put, List.setIfInBounds_toArray, List.set_cons_zero, List.set_cons_succ])
              refine tkW (v := ?_) 16 rfl (by kernel_rfl) (by kernel_rfl) (by kernel_rfl) (fun _ _ _ h => h) (by rfl) (by assumption) ?_ ?_
              rotate_left
              · intro w' hSw; clear hSw; go_simp; (try with_reducible rfl)
              (try simp only [Act.put, List.setIfInBounds_toArray, List.set_cons_zero, List.set_cons_succ])
              refine tkW (v := ?_) 17 rfl (by kernel_rfl) (by kernel_rfl) (by kernel_rfl) (fun _ _ _ h => h) (by rfl) (by assumption) ?_ ?_
              rotate_left
              · intro w' hSw; clear hSw; go_simp; (try with_reducible rfl)
              (try simp only [Act.put, List.setIfInBounds_toArray, List.set_cons_zero, List.set_cons_succ])
              refine tkW (v := ?_) 18 rfl (by kernel_rfl) (by kernel_rfl) (by kernel_rfl) (fun _ _ _ h => h) (by rfl) (by assumption) ?_ ?_
              rotate_left
              · intro w' hSw; clear hSw; go_simp; (try with_reducible rfl)
              (try simp only [Act.put, List.setIfInBounds_toArray, List.set_cons_zero, List.set_cons_succ])
              refine tkW (v := ?_) 19 rfl (by kernel_rfl) (by kernel_rfl) (by kernel_rfl) (fun _ _ _ h => h) (by rfl) (by assumption) ?_ ?_
              rotate_left
              · intro w' hSw; (try dsimp only at hSw); have kg0 : w'.cell? ⟨w.heap.size, 0, none⟩ = some (.slice (some ⟨bs, os, none⟩) 3 cS) := (hSw.cell (p := ⟨w.heap.size, 0, none⟩) (by first | exact lt_g0 | omega)).trans g0; have kg1 : w'.cell? ⟨w.heap.size, 1, none⟩ = some (.slice ap np cp) := (hSw.cell (p := ⟨w.heap.size, 1, none⟩) (by first | exact lt_g1 | omega)).trans g1; have kg2 : w'.cell? ⟨w.heap.size + 1, 0, none⟩ = some (.slice ax nx cx) := (hSw.cell (p := ⟨w.heap.size + 1, 0, none⟩) (by first | exact lt_g2 | omega)).trans g2; have kg3 : w'.cell? ⟨w.heap.size + 1, 1, none⟩ = some (.slice aT nt cT) := (hSw.cell (p := ⟨w.heap.size + 1, 1, none⟩) (by first | exact lt_g3 | omega)).trans g3; have kgs0 : w'.cell? ⟨bs, os, none⟩ = some (.int .i64 (nx : Int)) := (hSw.cell (p := ⟨bs, os, none⟩) (by first | exact lt_gs0 | omega)).trans gs0; have kgs2 : w'.cell? ⟨bs, os + 2, none⟩ = some (.int .i64 (q2 : Int)) := (hSw.cell (p := ⟨bs, os + 2, none⟩) (by first | exact lt_gs2 | omega)).trans gs2; clear hSw; go_simp; (try with_reducible rfl)
              (try simp only [Act.put, List.setIfInBounds_toArray, List.set_cons_zero, List.set_cons_succ])
              refine tkW (v := ?_) 20 rfl (by kernel_rfl) (by kernel_rfl) (by kernel_rfl) (fun _ _ _ h => h) (by rfl) (by assumption) ?_ ?_
              rotate_left
              · intro w' hSw; clear hSw; go_simp; (try with_reducible rfl)
              (try simp only [Act.put, List.setIfInBounds_toArray, List.set_cons_zero, List.set_cons_succ])
              refine tkW (v := ?_) 21 rfl (by kernel_rfl) (by kernel_rfl) (by kernel_rfl) (fun _ _ _ h => h) (by rfl) (by assumption) ?_ ?_
              rotate_left
              · intro w' hSw; clear hSw; go_simp; (try with_reducible rfl)
              (try simp only [Act.put, List.setIfInBounds_toArray, List.set_cons_zero, List.set_cons_succ])
              refine tkW (v := ?_) 22 rfl (by kernel_rfl) (by kernel_rfl) (by kernel_rfl) (fun _ _ _ h => h) (by rfl) (by assumption) ?_ ?_
              rotate_left
              · intro w' hSw; clear hSw; go_simp; (try with_reducible rfl)
              (try simp only [Act.put, List.setIfInBounds_toArray, List.set_cons_zero, List.set_cons_succ])
              refine tkW (v := ?_) 23 rfl (by kernel_rfl) (by kernel_rfl) (by kernel_rfl) (fun _ _ _ h => h) (by rfl) (by assumption) ?_ ?_
              rotate_left
              · intro w' hSw; clear hSw; go_simp; (try with_reducible rfl)
              (try simp only [Act.put, List.setIfInBounds_toArray, List.set_cons_zero, List.set_cons_succ])
              refine tkW (v := ?_) 24 rfl (by kernel_rfl) (by kernel_rfl) (by kernel_rfl) (fun _ _ _ h => h) (by rfl) (by assumption) ?_ ?_
              rotate_left
              · intro w' hSw; clear hSw; go_simp; (try with_reducible rfl)
              (try simp only [Act.put, List.setIfInBounds_toArray, List.set_cons_zero, List.set_cons_succ])
              refine tkW (v := ?_) 25 rfl (by kernel_rfl) (by kernel_rfl) (by kernel_rfl) (fun _ _ _ h => h) (by rfl) (by assumption) ?_ ?_
              rotate_left
              · intro w' hSw; (try dsimp only at hSw); have kg0 : w'.cell? ⟨w.heap.size, 0, none⟩ = some (.slice (some ⟨bs, os, none⟩) 3 cS) := (hSw.cell (p := ⟨w.heap.size, 0, none⟩) (by first | exact lt_g0 | omega)).trans g0; have kg1 : w'.cell? ⟨w.heap.size, 1, none⟩ = some (.slice ap np cp) := (hSw.cell (p := ⟨w.heap.size, 1, none⟩) (by first | exact lt_g1 | omega)).trans g1; have kg2 : w'.cell? ⟨w.heap.size + 1, 0, none⟩ = some (.slice ax nx cx) := (hSw.cell (p := ⟨w.heap.size + 1, 0, none⟩) (by first | exact lt_g2 | omega)).trans g2; have kg3 : w'.cell? ⟨w.heap.size + 1, 1, none⟩ = some (.slice aT nt cT) := (hSw.cell (p := ⟨w.heap.size + 1, 1, none⟩) (by first | exact lt_g3 | omega)).trans g3; have kgs0 : w'.cell? ⟨bs, os, none⟩ = some (.int .i64 (nx : Int)) := (hSw.cell (p := ⟨bs, os, none⟩) (by first | exact lt_gs0 | omega)).trans gs0; have kgs2 : w'.cell? ⟨bs, os + 2, none⟩ = some (.int .i64 (q2 : Int)) := (hSw.cell (p := ⟨bs, os + 2, none⟩) (by first | exact lt_gs2 | omega)).trans gs2; clear hSw; go_simp; (try with_reducible rfl)
              (try simp only [Act.put, List.setIfInBounds_toArray, List.set_cons_zero, List.set_cons_succ])
              refine tkW (v := ?_) 26 rfl (by kernel_rfl) (by kernel_rfl) (by kernel_rfl) (fun _ _ _ h => h) (by rfl) (by assumption) ?_ ?_
              rotate_left
              · intro w' hSw; clear hSw; go_simp; (try with_reducible rfl)
              (try simp only [Act.put, List.setIfInBounds_toArray, List.set_cons_zero, List.set_cons_succ])
              refine tkW (v := ?_) 27 rfl (by kernel_rfl) (by kernel_rfl) (by kernel_rfl) (fun _ _ _ h => h) (by rfl) (by assumption) ?_ ?_
              rotate_left
              · intro w' hSw; clear hSw; go_simp; (try with_reducible rfl)
              (try simp only [Act.put, List.setIfInBounds_toArray, List.set_cons_zero, List.set_cons_succ])
              refine tkW (v := ?_) 28 rfl (by kernel_rfl) (by kernel_rfl) (by kernel_rfl) (fun _ _ _ h => h) (by rfl) (by assumption) ?_ ?_
              rotate_left
              · intro w' hSw; (try dsimp only at hSw); have kg0 : w'.cell? ⟨w.heap.size, 0, none⟩ = some (.slice (some ⟨bs, os, none⟩) 3 cS) := (hSw.cell (p := ⟨w.heap.size, 0, none⟩) (by first | exact lt_g0 | omega)).trans g0; have kg1 : w'.cell? ⟨w.heap.size, 1, none⟩ = some (.slice ap np cp) := (hSw.cell (p := ⟨w.heap.size, 1, none⟩) (by first | exact lt_g1 | omega)).trans g1; have kg2 : w'.cell? ⟨w.heap.size + 1, 0, none⟩ = some (.slice ax nx cx) := (hSw.cell (p := ⟨w.heap.size + 1, 0, none⟩) (by first | exact lt_g2 | omega)).trans g2; have kg3 : w'.cell? ⟨w.heap.size + 1, 1, none⟩ = some (.slice aT nt cT) := (hSw.cell (p := ⟨w.heap.size + 1, 1, none⟩) (by first | exact lt_g3 | omega)).trans g3; have kgs0 : w'.cell? ⟨bs, os, none⟩ = some (.int .i64 (nx : Int)) := (hSw.cell (p := ⟨bs, os, none⟩) (by first | exact lt_gs0 | omega)).trans gs0; have kgs2 : w'.cell? ⟨bs, os + 2, none⟩ = some (.int .i64 (q2 : Int)) := (hSw.cell (p := ⟨bs, os + 2, none⟩) (by first | exact lt_gs2 | omega)).trans gs2; clear hSw; go_simp; (try with_reducible rfl)
              (try simp only [Act.put, List.setIfInBounds_toArray, List.set_cons_zero, List.set_cons_succ])
              refine tkW (v := ?_) 29 rfl (by kernel_rfl) (by kernel_rfl) (by kernel_rfl) (fun _ _ _ h => h) (by rfl) (by assumption) ?_ ?_
              rotate_left
              · intro w' hSw; clear hSw; go_simp; (try with_reducible rfl)
              (try simp only [Act.put, List.setIfInBounds_toArray, List.set_cons_zero, List.set_cons_succ])
              refine tkW (v := ?_) 30 rfl (by kernel_rfl) (by kernel_rfl) (by kernel_rfl) (fun _ _ _ h => h) (by rfl) (by assumption) ?_ ?_
              rotate_left
              · intro w' hSw; (try dsimp only at hSw); have kg0 : w'.cell? ⟨w.heap.size, 0, none⟩ = some (.slice (some ⟨bs, os, none⟩) 3 cS) := (hSw.cell (p := ⟨w.heap.size, 0, none⟩) (by first | exact lt_g0 | omega)).trans g0; have kg1 : w'.cell? ⟨w.heap.size, 1, none⟩ = some (.slice ap np cp) := (hSw.cell (p := ⟨w.heap.size, 1, none⟩) (by first | exact lt_g1 | omega)).trans g1; have kg2 : w'.cell? ⟨w.heap.size + 1, 0, none⟩ = some (.slice ax nx cx) := (hSw.cell (p := ⟨w.heap.size + 1, 0, none⟩) (by first | exact lt_g2 | omega)).trans g2; have kg3 : w'.cell? ⟨w.heap.size + 1, 1, none⟩ = some (.slice aT nt cT) := (hSw.cell (p := ⟨w.heap.size + 1, 1, none⟩) (by first | exact lt_g3 | omega)).trans g3; have kgs0 : w'.cell? ⟨bs, os, none⟩ = some (.int .i64 (nx : Int)) := (hSw.cell (p := ⟨bs, os, none⟩) (by first | exact lt_gs0 | omega)).trans gs0; have kgs2 : w'.cell? ⟨bs, os + 2, none⟩ = some (.int .i64 (q2 : Int)) := (hSw.cell (p := ⟨bs, os + 2, none⟩) (by first | exact lt_gs2 | omega)).trans gs2; clear hSw; go_simp; (try with_reducible rfl)
              (try simp only [Act.put, List.setIfInBounds_toArray, List.set_cons_zero, List.set_cons_succ])
              refine tkW (v := ?_) 31 rfl (by kernel_rfl) (by kernel_rfl) (by kernel_rfl) (fun _ _ _ h => h) (by rfl) (by assumption) ?_ ?_
              rotate_left
              · intro w' hSw; clear hSw; go_simp; (try with_reducible rfl)
              (try simp only [Act.put, List.setIfInBounds_toArray, List.set_cons_zero, List.set_cons_succ])
              refine tkW (v := ?_) 32 rfl (by kernel_rfl) (by kernel_rfl) (by kernel_rfl) (fun _ _ _ h => h) (by rfl) (by assumption) ?_ ?_
              rotate_left
              · intro w' hSw; clear hSw; go_simp; (try with_reducible rfl)
              (try simp only [Act.put, List.setIfInBounds_toArray, List.set_cons_zero, List.set_cons_succ])
              refine tkW (v := ?_) 33 rfl (by kernel_rfl) (by kernel_rfl) (by kernel_rfl) (fun _ _ _ h => h) (by rfl) (by assumption) ?_ ?_
              rotate_left
              · intro w' hSw; clear hSw; go_simp; (try with_reducible rfl)
              (try simp only [Act.put, List.setIfInBounds_toArray, List.set_cons_zero, List.set_cons_succ])
              refine tkW (v := ?_) 34 rfl (by kernel_rfl) (by kernel_rfl) (by kernel_rfl) (fun _ _ _ h => h) (by rfl) (by assumption) ?_ ?_
              rotate_left
              · intro w' hSw; clear hSw; go_simp; (try with_reducible rfl)
              (try simp only [Act.put, List.setIfInBounds_toArray, List.set_cons_zero, List.set_cons_succ])
              refine tkW (v := ?_) 35 rfl (by kernel_rfl) (by kernel_rfl) (by kernel_rfl) (fun _ _ _ h => h) (by rfl) (by assumption) ?_ ?_
              rotate_left
              · intro w' hSw; (try dsimp only at hSw); have kg0 : w'.cell? ⟨w.heap.size, 0, none⟩ = some (.slice (some ⟨bs, os, none⟩) 3 cS) := (hSw.cell (p := ⟨w.heap.size, 0, none⟩) (by first | exact lt_g0 | omega)).trans g0; have kg1 : w'.cell? ⟨w.heap.size, 1, none⟩ = some (.slice ap np cp) := (hSw.cell (p := ⟨w.heap.size, 1, none⟩) (by first | exact lt_g1 | omega)).trans g1; have kg2 : w'.cell? ⟨w.heap.size + 1, 0, none⟩ = some (.slice ax nx cx) := (hSw.cell (p := ⟨w.heap.size + 1, 0, none⟩) (by first | exact lt_g2 | omega)).trans g2; have kg3 : w'.cell? ⟨w.heap.size + 1, 1, none⟩ = some (.slice aT nt cT) := (hSw.cell (p := ⟨w.heap.size + 1, 1, none⟩) (by first | exact lt_g3 | omega)).trans g3; have kgs0 : w'.cell? ⟨bs, os, none⟩ = some (.int .i64 (nx : Int)) := (hSw.cell (p := ⟨bs, os, none⟩) (by first | exact lt_gs0 | omega)).trans gs0; have kgs2 : w'.cell? ⟨bs, os + 2, none⟩ = some (.int .i64 (q2 : Int)) := (hSw.cell (p := ⟨bs, os + 2, none⟩) (by first | exact lt_gs2 | omega)).trans gs2; clear hSw; go_simp; (try with_reducible rfl)
              (try simp only [Act.put, List.setIfInBounds_toArray, List.set_cons_zero, List.set_cons_succ])
              refine tkW (v := ?_) 36 rfl (by kernel_rfl) (by kernel_rfl) (by kernel_rfl) (fun _ _ _ h => h) (by rfl) (by assumption) ?_ ?_
              rotate_left
              · intro w' hSw; clear hSw; go_simp; (try with_reducible rfl)
              (try simp only [Act.put, List.setIfInBounds_toArray, List.set_cons_zero, List.set_cons_succ])
              refine tkW (v := ?_) 37 rfl (by kernel_rfl) (by kernel_rfl) (by kernel_rfl) (fun _ _ _ h => h) (by rfl) (by assumption) ?_ ?_
              rotate_left
              · intro w' hSw; clear hSw; go_simp; (try with_reducible rfl)
              (try simp only [Act.put, List.setIfInBounds_toArray, List.set_cons_zero, List.set_cons_succ])
              refine tkW (v := ?_) 38 rfl (by kernel_rfl) (by kernel_rfl) (by kernel_rfl) (fun _ _ _ h => h) (by rfl) (by assumption) ?_ ?_
              rotate_left
              · intro w' hSw; (try dsimp only at hSw); have kg0 : w'.cell? ⟨w.heap.size, 0, none⟩ = some (.slice (some ⟨bs, os, none⟩) 3 cS) := (hSw.cell (p := ⟨w.heap.size, 0, none⟩) (by first | exact lt_g0 | omega)).trans g0; have kg1 : w'.cell? ⟨w.heap.size, 1, none⟩ = some (.slice ap np cp) := (hSw.cell (p := ⟨w.heap.size, 1, none⟩) (by first | exact lt_g1 | omega)).trans g1; have kg2 : w'.cell? ⟨w.heap.size + 1, 0, none⟩ = some (.slice ax nx cx) := (hSw.cell (p := ⟨w.heap.size + 1, 0, none⟩) (by first | exact lt_g2 | omega)).trans g2; have kg3 : w'.cell? ⟨w.heap.size + 1, 1, none⟩ = some (.slice aT nt cT) := (hSw.cell (p := ⟨w.heap.size + 1, 1, none⟩) (by first | exact lt_g3 | omega)).trans g3; have kgs0 : w'.cell? ⟨bs, os, none⟩ = some (.int .i64 (nx : Int)) := (hSw.cell (p := ⟨bs, os, none⟩) (by first | exact lt_gs0 | omega)).trans gs0; have kgs2 : w'.cell? ⟨bs, os + 2, none⟩ = some (.int .i64 (q2 : Int)) := (hSw.cell (p := ⟨bs, os + 2, none⟩) (by first | exact lt_gs2 | omega)).trans gs2; clear hSw; go_simp; (try with_reducible rfl)
              (try simp only [Act.put, List.setIfInBounds_toArray, List.set_cons_zero, List.set_cons_succ])
              refine tkW (v := ?_) 39 rfl (by kernel_rfl) (by kernel_rfl) (by kernel_rfl) (fun _ _ _ h => h) (by rfl) (by assumption) ?_ ?_
              rotate_left
              · intro w' hSw; clear hSw; go_simp; (try with_reducible rfl)
              (try simp only [Act.put, List.setIfInBounds_toArray, List.set_cons_zero, List.set_cons_succ])
              refine tkW (v := ?_) 40 rfl (by kernel_rfl) (by kernel_rfl) (by kernel_rfl) (fun _ _ _ h => h) (by rfl) (by assumption) ?_ ?_
              rotate_left
              · intro w' hSw; (try dsimp only at hSw); have kg0 : w'.cell? ⟨w.heap.size, 0, none⟩ = some (.slice (some ⟨bs, os, none⟩) 3 cS) := (hSw.cell (p := ⟨w.heap.size, 0, none⟩) (by first | exact lt_g0 | omega)).trans g0; have kg1 : w'.cell? ⟨w.heap.size, 1, none⟩ = some (.slice ap np cp) := (hSw.cell (p := ⟨w.heap.size, 1, none⟩) (by first | exact lt_g1 | omega)).trans g1; have kg2 : w'.cell? ⟨w.heap.size + 1, 0, none⟩ = some (.slice ax nx cx) := (hSw.cell (p := ⟨w.heap.size + 1, 0, none⟩) (by first | exact lt_g2 | omega)).trans g2; have kg3 : w'.cell? ⟨w.heap.size + 1, 1, none⟩ = some (.slice aT nt cT) := (hSw.cell (p := ⟨w.heap.size + 1, 1, none⟩) (by first | exact lt_g3 | omega)).trans g3; have kgs0 : w'.cell? ⟨bs, os, none⟩ = some (.int .i64 (nx : Int)) := (hSw.cell (p := ⟨bs, os, none⟩) (by first | exact lt_gs0 | omega)).trans gs0; have kgs2 : w'.cell? ⟨bs, os + 2, none⟩ = some (.int .i64 (q2 : Int)) := (hSw.cell (p := ⟨bs, os + 2, none⟩) (by first | exact lt_gs2 | omega)).trans gs2; clear hSw; go_simp; (try with_reducible rfl)
              (try simp only [Act.put, List.setIfInBounds_toArray, List.set_cons_zero, List.set_cons_succ])
              refine tkW (v := ?_) 41 rfl (by kernel_rfl) (by kernel_rfl) (by kernel_rfl) (fun _ _ _ h => h) (by rfl) (by assumption) ?_ ?_
              rotate_left
              · intro w' hSw; clear hSw; go_simp; (try with_reducible rfl)
              (try simp only [Act.put, List.setIfInBounds_toArray, List.set_cons_zero, List.set_cons_succ])
              refine tkW (v := ?_) 42 rfl (by kernel_rfl) (by kernel_rfl) (by kernel_rfl) (fun _ _ _ h => h) (by rfl) (by assumption) ?_ ?_
              rotate_left
              · intro w' hSw; clear hSw; go_simp; (try with_reducible rfl)
              (try simp only [Act.put, List.setIfInBounds_toArray, List.set_cons_zero, List.set_cons_succ])
              refine wpAnyH_done (by kernel_rfl) ?_ _
              go_wp2
              go_ret
              exact ⟨rfl, Hb1.out.trans (hHeld.mono (by omega))⟩
          · have hne : ((nx : Int) != (szN s 0 : Int)) = true := by simpa using (by omega : ¬ (nx : Int) = szN s 0)
            have hne2 : ((nx : Int) == (szN s 0 : Int)) = false := by simpa using (by omega : ¬ (nx : Int) = szN s 0)
            clear hS hP hX hT hfew hfe hr hs0 hs1 hs2 hsl
            subst h3
            generalize szN s 0 = q0 at *
            have gs0x := hcs
            clear hcs hcs2
            go_enter Try.func8, Try.ntmps8
            go_wp2_with fail
            ((with_reducible refine (HAw.out _).mono ?_); rintro e w1 ⟨rfl, hb1⟩)
            obtain ⟨hc1, hf1⟩ := bcell hb1
            have hz1 := hb1.size
            simp at hz1 hc1 hf1
            have g0 : w1.cell? ⟨w.heap.size, 0, none⟩ = some (.slice (some ⟨bs, os, none⟩) 3 cS) := by rw [hc1 _ _ (by omega)]; go_simp
            have g1 : w1.cell? ⟨w.heap.size, 1, none⟩ = some (.slice ap np cp) := by rw [hc1 _ _ (by omega)]; go_simp
            have g2 : w1.cell? ⟨w.heap.size + 1, 0, none⟩ = some (.slice ax nx cx) := by rw [hc1 _ _ (by omega)]; go_simp
            have g3 : w1.cell? ⟨w.heap.size + 1, 1, none⟩ = some (.slice aT nt cT) := by rw [hc1 _ _ (by omega)]; go_simp
            have gs0 : w1.cell? ⟨bs, os, none⟩ = some (.int .i64 (q0 : Int)) := by rw [hc1 _ _ (by omega), World.cell?_alloc_past _ _ _ (by (first | omega | (simp; done) | (simp; omega))), World.cell?_alloc_past _ _ _ hbs]; exact gs0x
            have lt1 : w.heap.size + 1 < w1.heap.size := by omega
            have lt_g0 : w.heap.size < w1.heap.size := by omega
            have lt_g1 := lt_g0
            have lt_g2 := lt1
            have lt_g3 := lt1
            have lt_gs0 : bs < w1.heap.size := by omega
            have Hb1 : Hid (Below w.heap.size w w1) := Lib.hid (by (repeat first | assumption | exact Below.refl _ _ | refine Below.drew ?_ | refine Below.drewN ?_ _ | refine Below.alloc ?_ (by (first | omega | (simp; done) | (simp; omega))) _ | refine Below.setCell ?_ (by (first | omega | (simp; done) | (simp; omega))) _ | refine Below.trans ?_ (Below.mono (by assumption) (by (first | omega | (simp; done) | (simp; omega))))))
            clear hb1 hc1 hf1 HAw
            go_wp2_with fail
            refine wp_region_held_drew (S := fun w' => Below w1.heap.size w1 w') (by kernel_rfl) ?_ (fun hHeld => ?_)
            · exact (Below.refl _ _).drew
            refine tkW (v := ?_) 0 rfl (by kernel_rfl) (by kernel_rfl) (by kernel_rfl) (fun _ _ _ h => h) (by rfl) (by assumption) ?_ ?_
            rotate_left
            · intro w' hSw; (try dsimp only at hSw); have kg0 : w'.cell? ⟨w.heap.size, 0, none⟩ = some (.slice (some ⟨bs, os, none⟩) 3 cS) := (hSw.cell (p := ⟨w.heap.size, 0, none⟩) (by first | exact lt_g0 | omega)).trans g0; have kg1 : w'.cell? ⟨w.heap.size, 1, none⟩ = some (.slice ap np cp) := (hSw.cell (p := ⟨w.heap.size, 1, none⟩) (by first | exact lt_g1 | omega)).trans g1; have kg2 : w'.cell? ⟨w.heap.size + 1, 0, none⟩ = some (.slice ax nx cx) := (hSw.cell (p := ⟨w.heap.size + 1, 0, none⟩) (by first | exact lt_g2 | omega)).trans g2; have kg3 : w'.cell? ⟨w.heap.size + 1, 1, none⟩ = some (.slice aT nt cT) := (hSw.cell (p := ⟨w.heap.size + 1, 1, none⟩) (by first | exact lt_g3 | omega)).trans g3; have kgs0 : w'.cell? ⟨bs, os, none⟩ = some (.int .i64 (q0 : Int)) := (hSw.cell (p := ⟨bs, os, none⟩) (by first | exact lt_gs0 | omega)).trans gs0; clear hSw; go_simp; (try with_reducible rfl)
            (try simp only [Act.put, List.setIfInBounds_toArray, List.set_cons_zero, List.set_cons_succ])
            refine tkC 1 rfl (by kernel_rfl) (by rfl) (fun K hK => ?_)
            go_simp
            (go_at_call 29; refine (HFew.out _ (Hb1.out.trans (hHeld.mono (by omega)))).mono ?_; rintro e w2 ⟨rfl, hb2⟩; have hN := hHeld.trans (hb2.mono (by have := hHeld.size; omega)))
            (try dsimp only)
            refine hK.out _ _ ?_ (fun hHeld => ?_)
            · exact hN
            clear hK K
            (try simp only [Act.put, List.setIfInBounds_toArray, List.set_cons_zero, List.set_cons_succ])
            refine tkW (v := ?_) 2 rfl (by kernel_rfl) (by kernel_rfl) (by kernel_rfl) (fun _ _ _ h => h) (by rfl) (by assumption) ?_ ?_
            rotate_left
            · intro w' hSw; clear hSw; go_simp; (try with_reducible rfl)
            (try simp only [Act.put, List.setIfInBounds_toArray, List.set_cons_zero, List.set_cons_succ])
            refine tkW (v := ?_) 3 rfl (by kernel_rfl) (by kernel_rfl) (by kernel_rfl) (fun _ _ _ h => h) (by rfl) (by assumption) ?_ ?_
            rotate_left
            · intro w' hSw; clear hSw; go_simp; (try with_reducible rfl)
            (try simp only [Act.put, List.setIfInBounds_toArray, List.set_cons_zero, List.set_cons_succ])
            refine tkW (v := ?_) 4 rfl (by kernel_rfl) (by kernel_rfl) (by kernel_rfl) (fun _ _ _ h => h) (by rfl) (by assumption) ?_ ?_
            rotate_left
            · intro w' hSw; clear hSw; go_simp; (try with_reducible rfl)
            (try simp only [Act.put, List.setIfInBounds_toArray, List.set_cons_zero, List.set_cons_succ])
            refine tkW (v := ?_) 5 rfl (by kernel_rfl) (by kernel_rfl) (by kernel_rfl) (fun _ _ _ h => h) (by rfl) (by assumption) ?_ ?_
            rotate_left
            · intro w' hSw; (try dsimp only at hSw); have kg0 : w'.cell? ⟨w.heap.size, 0, none⟩ = some (.slice (some ⟨bs, os, none⟩) 3 cS) := (hSw.cell (p := ⟨w.heap.size, 0, none⟩) (by first | exact lt_g0 | omega)).trans g0; have kg1 : w'.cell? ⟨w.heap.size, 1, none⟩ = some (.slice ap np cp) := (hSw.cell (p := ⟨w.heap.size, 1, none⟩) (by first | exact lt_g1 | omega)).trans g1; have kg2 : w'.cell? ⟨w.heap.size + 1, 0, none⟩ = some (.slice ax nx cx) := (hSw.cell (p := ⟨w.heap.size + 1, 0, none⟩) (by first | exact lt_g2 | omega)).trans g2; have kg3 : w'.cell? ⟨w.heap.size + 1, 1, none⟩ = some (.slice aT nt cT) := (hSw.cell (p := ⟨w.heap.size + 1, 1, none⟩) (by first | exact lt_g3 | omega)).trans g3; have kgs0 : w'.cell? ⟨bs, os, none⟩ = some (.int .i64 (q0 : Int)) := (hSw.cell (p := ⟨bs, os, none⟩) (by first | exact lt_gs0 | omega)).trans gs0; clear hSw; go_simp; (try with_reducible rfl)
            (try simp only [Act.put, List.setIfInBounds_toArray, List.set_cons_zero, List.set_cons_succ])
            refine tkW (v := ?_) 6 rfl (by kernel_rfl) (by kernel_rfl) (by kernel_rfl) (fun _ _ _ h => h) (by rfl) (by assumption) ?_ ?_
            rotate_left
            · intro w' hSw; clear hSw; go_simp; (try with_reducible rfl)
            (try simp only [Act.put, List.setIfInBounds_toArray, List.set_cons_zero, List.set_cons_succ])
            refine tkW (v := ?_) 7 rfl (by kernel_rfl) (by kernel_rfl) (by kernel_rfl) (fun _ _ _ h => h) (by rfl) (by assumption) ?_ ?_
            rotate_left
            · intro w' hSw; (try dsimp only at hSw); have kg0 : w'.cell? ⟨w.heap.size, 0, none⟩ = some (.slice (some ⟨bs, os, none⟩) 3 cS) := (hSw.cell (p := ⟨w.heap.size, 0, none⟩) (by first | exact lt_g0 | omega)).trans g0; have kg1 : w'.cell? ⟨w.heap.size, 1, none⟩ = some (.slice ap np cp) := (hSw.cell (p := ⟨w.heap.size, 1, none⟩) (by first | exact lt_g1 | omega)).trans g1; have kg2 : w'.cell? ⟨w.heap.size + 1, 0, none⟩ = some (.slice ax nx cx) := (hSw.cell (p := ⟨w.heap.size + 1, 0, none⟩) (by first | exact lt_g2 | omega)).trans g2; have kg3 : w'.cell? ⟨w.heap.size + 1, 1, none⟩ = some (.slice aT nt cT) := (hSw.cell (p := ⟨w.heap.size + 1, 1, none⟩) (by first | exact lt_g3 | omega)).trans g3; have kgs0 : w'.cell? ⟨bs, os, none⟩ = some (.int .i64 (q0 : Int)) := (hSw.cell (p := ⟨bs, os, none⟩) (by first | exact lt_gs0 | omega)).trans gs0; clear hSw; go_simp; (try with_reducible rfl)
            (try simp only [Act.put, List.setIfInBounds_toArray, List.set_cons_zero, List.set_cons_succ])
            refine tkC 8 rfl (by kernel_rfl) (by rfl) (fun K hK => ?_)
            go_simp
            refine hK.out _ _ ?_ (fun hHeld => ?_)
            · exact hHeld.alloc (by have := hHeld.size; omega) _
            clear hK K
            (try simp only [Act.put, List.setIfInBounds_toArray, List.set_cons_zero, List.set_cons_succ])
            refine tkC 9 rfl (by kernel_rfl) (by rfl) (fun K hK => ?_)
            go_simp
            (go_at_call 30; refine (HSh.out _ _ (World.cell?_alloc_at _ _ _ _ rfl) (World.cell?_alloc_at _ _ _ _ rfl)).mono ?_; rintro e w3 ⟨rfl, rfl⟩; have hN := hHeld)
            (try dsimp only)
            refine hK.out _ _ ?_ (fun hHeld => ?_)
            · exact hN
            clear hK K
            (try simp only [Act.put, List.setIfInBounds_toArray, List.set_cons_zero, List.set_cons_succ])
            refine tkW (v := ?_) 10 rfl (by kernel_rfl) (by kernel_rfl) (by kernel_rfl) (fun _ _ _ h => h) (by rfl) (by assumption) ?_ ?_
            rotate_left
            · intro w' hSw; clear hSw; go_simp; (try with_reducible rfl)
            (try simp only [Act.put, List.setIfInBounds_toArray, List.set_cons_zero, List.set_cons_succ])
            refine tkW (v := ?_) 11 rfl (by kernel_rfl) (by kernel_rfl) (by kernel_rfl) (fun _ _ _ h => h) (by rfl) (by assumption) ?_ ?_
            rotate_left
            · intro w' hSw; clear hSw; go_simp; (try with_reducible rfl)
            (try simp only [Act.put, List.setIfInBounds_toArray, List.set_cons_zero, List.set_cons_succ])
            refine tkW (v := ?_) 12 rfl (by kernel_rfl) (by kernel_rfl) (by kernel_rfl) (fun _ _ _ h => h) (by rfl) (by assumption) ?_ ?_
            rotate_left
            · intro w' hSw; clear hSw; go_simp; (try with_reducible rfl)
            (try simp only [Act.put, List.setIfInBounds_toArray, List.set_cons_zero, List.set_cons_succ])
            refine tkW (v := ?_) 13 rfl (by kernel_rfl) (by kernel_rfl) (by kernel_rfl) (fun _ _ _ h => h) (by rfl) (by assumption) ?_ ?_
            rotate_left
            · intro w' hSw; (try dsimp only at hSw); have kg0 : w'.cell? ⟨w.heap.size, 0, none⟩ = some (.slice (some ⟨bs, os, none⟩) 3 cS) := (hSw.cell (p := ⟨w.heap.size, 0, none⟩) (by first | exact lt_g0 | omega)).trans g0; have kg1 : w'.cell? ⟨w.heap.size, 1, none⟩ = some (.slice ap np cp) := (hSw.cell (p := ⟨w.heap.size, 1, none⟩) (by first | exact lt_g1 | omega)).trans g1; have kg2 : w'.cell? ⟨w.heap.size + 1, 0, none⟩ = some (.slice ax nx cx) := (hSw.cell (p := ⟨w.heap.size + 1, 0, none⟩) (by first | exact lt_g2 | omega)).trans g2; have kg3 : w'.cell? ⟨w.heap.size + 1, 1, none⟩ = some (.slice aT nt cT) := (hSw.cell (p := ⟨w.heap.size + 1, 1, none⟩) (by first | exact lt_g3 | omega)).trans g3; have kgs0 : w'.cell? ⟨bs, os, none⟩ = some (.int .i64 (q0 : Int)) := (hSw.cell (p := ⟨bs, os, none⟩) (by first | exact lt_gs0 | omega)).trans gs0; clear hSw; go_simp; (try with_reducible rfl)
            (try simp only [Act.put, List.setIfInBounds_toArray, List.set_cons_zero, List.set_cons_succ])
            refine tkC 14 rfl (by kernel_rfl) (by rfl) (fun K hK => ?_)
            go_simp
            (go_at_call 31; refine (HR.out _ (Hb1.out.trans (hHeld.mono (by omega)))).mono ?_; rintro e w4 ⟨rfl, hb4⟩; have hN := hHeld.trans (hb4.mono (by have := hHeld.size; omega)))
            (try dsimp only)
            refine hK.out _ _ ?_ (fun hHeld => ?_)
            · exact hN
            clear hK K
            (try simp only [Act.put, List.setIfInBounds_toArray, List.set_cons_zero, List.set_cons_succ])
            refine tkW (v := ?_) 15 rfl (by kernel_rfl) (by kernel_rfl) (by kernel_rfl) (fun _ _ _ h => h) (by rfl) (by assumption) ?_ ?_
            rotate_left
            · intro w' hSw; clear hSw; go_simp; (try with_reducible rfl)
            (try simp only [Act.put, List.setIfInBounds_toArray, List.set_cons_zero, List.set_cons_succ])
            refine tkW (v := ?_) 16 rfl (by kernel_rfl) (by kernel_rfl) (by kernel_rfl) (fun _ _ _ h => h) (by rfl) (by assumption) ?_ ?_
            rotate_left
            · intro w' hSw; clear hSw; go_simp; (try with_reducible rfl)
            (try simp only [Act.put, List.setIfInBounds_toArray, List.set_cons_zero, List.set_cons_succ])
            refine tkW (v := ?_) 17 rfl (by kernel_rfl) (by kernel_rfl) (by kernel_rfl) (fun _ _ _ h => h) (by rfl) (by assumption) ?_ ?_
            rotate_left
            · intro w' hSw; clear hSw; go_simp; (try with_reducible rfl)
            (try simp only [Act.put, List.setIfInBounds_toArray, List.set_cons_zero, List.set_cons_succ])
            refine tkW (v := ?_) 18 rfl (by kernel_rfl) (by kernel_rfl) (by kernel_rfl) (fun _ _ _ h => h) (by rfl) (by assumption) ?_ ?_
            rotate_left
            · intro w' hSw; clear hSw; go_simp; (try with_reducible rfl)
            (try simp only [Act.put, List.setIfInBounds_toArray, List.set_cons_zero, List.set_cons_succ])
            refine tkW (v := ?_) 19 rfl (by kernel_rfl) (by kernel_rfl) (by kernel_rfl) (fun _ _ _ h => h) (by rfl) (by assumption) ?_ ?_
            rotate_left
            · intro w' hSw; (try dsimp only at hSw); have kg0 : w'.cell? ⟨w.heap.size, 0, none⟩ = some (.slice (some ⟨bs, os, none⟩) 3 cS) := (hSw.cell (p := ⟨w.heap.size, 0, none⟩) (by first | exact lt_g0 | omega)).trans g0; have kg1 : w'.cell? ⟨w.heap.size, 1, none⟩ = some (.slice ap np cp) := (hSw.cell (p := ⟨w.heap.size, 1, none⟩) (by first | exact lt_g1 | omega)).trans g1; have kg2 : w'.cell? ⟨w.heap.size + 1, 0, none⟩ = some (.slice ax nx cx) := (hSw.cell (p := ⟨w.heap.size + 1, 0, none⟩) (by first | exact lt_g2 | omega)).trans g2; have kg3 : w'.cell? ⟨w.heap.size + 1, 1, none⟩ = some (.slice aT nt cT) := (hSw.cell (p := ⟨w.heap.size + 1, 1, none⟩) (by first | exact lt_g3 | omega)).trans g3; have kgs0 : w'.cell? ⟨bs, os, none⟩ = some (.int .i64 (q0 : Int)) := (hSw.cell (p := ⟨bs, os, none⟩) (by first | exact lt_gs0 | omega)).trans gs0; clear hSw; go_simp; (try with_reducible rfl)
            (try simp only [Act.put, List.setIfInBounds_toArray, List.set_cons_zero, List.set_cons_succ])
            refine tkW (v := ?_) 20 rfl (by kernel_rfl) (by kernel_rfl) (by kernel_rfl) (fun _ _ _ h => h) (by rfl) (by assumption) ?_ ?_
            rotate_left
            · intro w' hSw; clear hSw; go_simp; (try with_reducible rfl)
            (try simp only [Act.put, List.setIfInBounds_toArray, List.set_cons_zero, List.set_cons_succ])
            refine tkW (v := ?_) 21 rfl (by kernel_rfl) (by kernel_rfl) (by kernel_rfl) (fun _ _ _ h => h) (by rfl) (by assumption) ?_ ?_
            rotate_left
            · intro w' hSw; clear hSw; go_simp; (try with_reducible rfl)
            (try simp only [Act.put, List.setIfInBounds_toArray, List.set_cons_zero, List.set_cons_succ])
            refine tkW (v := ?_) 22 rfl (by kernel_rfl) (by kernel_rfl) (by kernel_rfl) (fun _ _ _ h => h) (by rfl) (by assumption) ?_ ?_
            rotate_left
            · intro w' hSw; clear hSw; go_simp; (try with_reducible rfl)
            (try simp only [Act.put, List.setIfInBounds_toArray, List.set_cons_zero, List.set_cons_succ])
            refine tkW (v := ?_) 23 rfl (by kernel_rfl) (by kernel_rfl) (by kernel_rfl) (fun _ _ _ h => h) (by rfl) (by assumption) ?_ ?_
            rotate_left
            · intro w' hSw; clear hSw; go_simp; (try with_reducible rfl)
            (try simp only [Act.put, List.setIfInBounds_toArray, List.set_cons_zero, List.set_cons_succ])
            refine tkW (v := ?_) 24 rfl (by kernel_rfl) (by kernel_rfl) (by kernel_rfl) (fun _ _ _ h => h) (by rfl) (by assumption) ?_ ?_
            rotate_left
            · intro w' hSw; clear hSw; go_simp; (try with_reducible rfl)
            (try simp only [Act.put, List.setIfInBounds_toArray, List.set_cons_zero, List.set_cons_succ])
            refine tkW (v := ?_) 25 rfl (by kernel_rfl) (by kernel_rfl) (by kernel_rfl) (fun _ _ _ h => h) (by rfl) (by assumption) ?_ ?_
            rotate_left
            · intro w' hSw; (try dsimp only at hSw); have kg0 : w'.cell? ⟨w.heap.size, 0, none⟩ = some (.slice (some ⟨bs, os, none⟩) 3 cS) := (hSw.cell (p := ⟨w.heap.size, 0, none⟩) (by first | exact lt_g0 | omega)).trans g0; have kg1 : w'.cell? ⟨w.heap.size, 1, none⟩ = some (.slice ap np cp) := (hSw.cell (p := ⟨w.heap.size, 1, none⟩) (by first | exact lt_g1 | omega)).trans g1; have kg2 : w'.cell? ⟨w.heap.size + 1, 0, none⟩ = some (.slice ax nx cx) := (hSw.cell (p := ⟨w.heap.size + 1, 0, none⟩) (by first | exact lt_g2 | omega)).trans g2; have kg3 : w'.cell? ⟨w.heap.size + 1, 1, none⟩ = some (.slice aT nt cT) := (hSw.cell (p := ⟨w.heap.size + 1, 1, none⟩) (by first | exact lt_g3 | omega)).trans g3; have kgs0 : w'.cell? ⟨bs, os, none⟩ = some (.int .i64 (q0 : Int)) := (hSw.cell (p := ⟨bs, os, none⟩) (by first | exact lt_gs0 | omega)).trans gs0; clear hSw; go_simp; (try with_reducible rfl)
            (try simp only [Act.put, List.setIfInBounds_toArray, List.set_cons_zero, List.set_cons_succ])
            refine tkW (v := ?_) 26 rfl (by kernel_rfl) (by kernel_rfl) (by kernel_rfl) (fun _ _ _ h => h) (by rfl) (by assumption) ?_ ?_
            rotate_left
            · intro w' hSw; clear hSw; go_simp; (try with_reducible rfl)
            (try simp only [Act.put, List.setIfInBounds_toArray, List.set_cons_zero, List.set_cons_succ])
            refine tkW (v := ?_) 27 rfl (by kernel_rfl) (by kernel_rfl) (by kernel_rfl) (fun _ _ _ h => h) (by rfl) (by assumption) ?_ ?_
            rotate_left
            · intro w' hSw; clear hSw; go_simp; (try with_reducible rfl)
            (try simp only [Act.put, List.setIfInBounds_toArray, List.set_cons_zero, List.set_cons_succ])
            refine tkW (v := ?_) 28 rfl (by kernel_rfl) (by kernel_rfl) (by kernel_rfl) (fun _ _ _ h => h) (by rfl) (by assumption) ?_ ?_
            rotate_left
            · intro w' hSw; (try dsimp only at hSw); have kg0 : w'.cell? ⟨w.heap.size, 0, none⟩ = some (.slice (some ⟨bs, os, none⟩) 3 cS) := (hSw.cell (p := ⟨w.heap.size, 0, none⟩) (by first | exact lt_g0 | omega)).trans g0; have kg1 : w'.cell? ⟨w.heap.size, 1, none⟩ = some (.slice ap np cp) := (hSw.cell (p := ⟨w.heap.size, 1, none⟩) (by first | exact lt_g1 | omega)).trans g1; have kg2 : w'.cell? ⟨w.heap.size + 1, 0, none⟩ = some (.slice ax nx cx) := (hSw.cell (p := ⟨w.heap.size + 1, 0, none⟩) (by first | exact lt_g2 | omega)).trans g2; have kg3 : w'.cell? ⟨w.heap.size + 1, 1, none⟩ = some (.slice aT nt cT) := (hSw.cell (p := ⟨w.heap.size + 1, 1, none⟩) (by first | exact lt_g3 | omega)).trans g3; have kgs0 : w'.cell? ⟨bs, os, none⟩ = some (.int .i64 (q0 : Int)) := (hSw.cell (p := ⟨bs, os, none⟩) (by first | exact lt_gs0 | omega)).trans gs0; clear hSw; go_simp; (try with_reducible rfl)
            (try simp only [Act.put, List.setIfInBounds_toArray, List.set_cons_zero, List.set_cons_succ])
            refine tkW (v := ?_) 29 rfl (by kernel_rfl) (by kernel_rfl) (by kernel_rfl) (fun _ _ _ h => h) (by rfl) (by assumption) ?_ ?_
            rotate_left
            · intro w' hSw; clear hSw; go_simp; (try with_reducible rfl)
            (try simp only [Act.put, List.setIfInBounds_toArray, List.set_cons_zero, List.set_cons_succ])
            refine tkW (v := ?_) 30 rfl (by kernel_rfl) (by kernel_rfl) (by kernel_rfl) (fun _ _ _ h => h) (by rfl) (by assumption) ?_ ?_
            rotate_left
            · intro w' hSw; (try dsimp only at hSw); have kg0 : w'.cell? ⟨w.heap.size, 0, none⟩ = some (.slice (some ⟨bs, os, none⟩) 3 cS) := (hSw.cell (p := ⟨w.heap.size, 0, none⟩) (by first | exact lt_g0 | omega)).trans g0; have kg1 : w'.cell? ⟨w.heap.size, 1, none⟩ = some (.slice ap np cp) := (hSw.cell (p := ⟨w.heap.size, 1, none⟩) (by first | exact lt_g1 | omega)).trans g1; have kg2 : w'.cell? ⟨w.heap.size + 1, 0, none⟩ = some (.slice ax nx cx) := (hSw.cell (p := ⟨w.heap.size + 1, 0, none⟩) (by first | exact lt_g2 | omega)).trans g2; have kg3 : w'.cell? ⟨w.heap.size + 1, 1, none⟩ = some (.slice aT nt cT) := (hSw.cell (p := ⟨w.heap.size + 1, 1, none⟩) (by first | exact lt_g3 | omega)).trans g3; have kgs0 : w'.cell? ⟨bs, os, none⟩ = some (.int .i64 (q0 : Int)) := (hSw.cell (p := ⟨bs, os, none⟩) (by first | exact lt_gs0 | omega)).trans gs0; clear hSw; go_simp; (try with_reducible rfl)
            (try simp only [Act.put, List.setIfInBounds_toArray, List.set_cons_zero, List.set_cons_succ])
            refine tkW (v := ?_) 31 rfl (by kernel_rfl) (by kernel_rfl) (by kernel_rfl) (fun _ _ _ h => h) (by rfl) (by assumption) ?_ ?_
            rotate_left
            · intro w' hSw; clear hSw; go_simp; (try with_reducible rfl)
            (try simp only [Act.put, List.setIfInBounds_toArray, List.set_cons_zero, List.set_cons_succ])
            refine tkW (v := ?_) 32 rfl (by kernel_rfl) (by kernel_rfl) (by kernel_rfl) (fun _ _ _ h => h) (by rfl) (by assumption) ?_ ?_
            rotate_left
            · intro w' hSw; clear hSw; go_simp; (try with_reducible rfl)
            (try simp only [Act.put, List.setIfInBounds_toArray, List.set_cons_zero, List.set_cons_succ])
            refine tkW (v := ?_) 33 rfl (by kernel_rfl) (by kernel_rfl) (by kernel_rfl) (fun _ _ _ h => h) (by rfl) (by assumption) ?_ ?_
            rotate_left
            · intro w' hSw; clear hSw; go_simp; (try with_reducible rfl)
            (try simp only [Act.put, List.setIfInBounds_toArray, List.set_cons_zero, List.set_cons_succ])
            refine tkU 34 rfl (by kernel_rfl) (by kernel_rfl) (by kernel_rfl) (fun _ _ _ h => h) (by rfl) (by assumption) ?_
            (try simp only [Act.put, List.setIfInBounds_toArray, List.set_cons_zero, List.set_cons_succ])
            refine tkU 35 rfl (by kernel_rfl) (by kernel_rfl) (by kernel_rfl) (fun _ _ _ h => h) (by rfl) (by assumption) ?_
            (try simp only [Act.put, List.setIfInBounds_toArray, List.set_cons_zero, List.set_cons_succ])
            refine tkU 36 rfl (by kernel_rfl) (by kernel_rfl) (by kernel_rfl) (fun _ _ _ h => h) (by rfl) (by assumption) ?_
            (try simp only [Act.put, List.setIfInBounds_toArray, List.set_cons_zero, List.set_cons_succ])
            refine tkU 37 rfl (by kernel_rfl) (by kernel_rfl) (by kernel_rfl) (fun _ _ _ h => h) (by rfl) (by assumption) ?_
            (try simp only [Act.put, List.setIfInBounds_toArray, List.set_cons_zero, List.set_cons_succ])
            refine tkU 38 rfl (by kernel_rfl) (by kernel_rfl) (by kernel_rfl) (fun _ _ _ h => h) (by rfl) (by assumption) ?_
            (try simp only [Act.put, List.setIfInBounds_toArray, List.set_cons_zero, List.set_cons_succ])
            refine tkU 39 rfl (by kernel_rfl) (by kernel_rfl) (by kernel_rfl) (fun _ _ _ h => h) (by rfl) (by assumption) ?_
            (try simp only [Act.put, List.setIfInBounds_toArray, List.set_cons_zero, List.set_cons_succ])
            refine tkU 40 rfl (by kernel_rfl) (by kernel_rfl) (by kernel_rfl) (fun _ _ _ h => h) (by rfl) (by assumption) ?_
            (try simp only [Act.put, List.setIfInBounds_toArray, List.set_cons_zero, List.set_cons_succ])
            refine tkU 41 rfl (by kernel_rfl) (by kernel_rfl) (by kernel_rfl) (fun _ _ _ h => h) (by rfl) (by assumption) ?_
            (try simp only [Act.put, List.setIfInBounds_toArray, List.set_cons_zero, List.set_cons_succ])
            refine tkW (v := ?_) 42 rfl (by kernel_rfl) (by kernel_rfl) (by kernel_rfl) (fun _ _ _ h => h) (by rfl) (by assumption) ?_ ?_
            rotate_left
            · intro w' hSw; clear hSw; go_simp; (try with_reducible rfl)
            (try simp only [Act.put, List.setIfInBounds_toArray, List.set_cons_zero, List.set_cons_succ])
            refine wpAnyH_done (by kernel_rfl) ?_ _
            go_wp2
            go_ret
            exact ⟨rfl, Hb1.out.trans (hHeld.mono (by omega))⟩
        · have hne : ((ns : Int) != 3) = true := by simpa using (by omega : ¬ (ns : Int) = 3)
          have hne2 : ((ns : Int) == 3) = false := by simpa using (by omega : ¬ (ns : Int) = 3)
          clear hS hP hX hT hfew hfe hr
          go_enter Try.func8, Try.ntmps8
          go_wp2_with fail
          ((with_reducible refine (HAw.out _).mono ?_); rintro e w1 ⟨rfl, hb1⟩)
          obtain ⟨hc1, hf1⟩ := bcell hb1
          have hz1 := hb1.size
          simp at hz1 hc1 hf1
          have g0 : w1.cell? ⟨w.heap.size, 0, none⟩ = some (.slice aS ns cS) := by rw [hc1 _ _ (by omega)]; go_simp
          have g1 : w1.cell? ⟨w.heap.size, 1, none⟩ = some (.slice ap np cp) := by rw [hc1 _ _ (by omega)]; go_simp
          have g2 : w1.cell? ⟨w.heap.size + 1, 0, none⟩ = some (.slice ax nx cx) := by rw [hc1 _ _ (by omega)]; go_simp
          have g3 : w1.cell? ⟨w.heap.size + 1, 1, none⟩ = some (.slice aT nt cT) := by rw [hc1 _ _ (by omega)]; go_simp
          have lt1 : w.heap.size + 1 < w1.heap.size := by omega
          have lt_g0 : w.heap.size < w1.heap.size := by omega
          have lt_g1 := lt_g0
          have lt_g2 := lt1
          have lt_g3 := lt1
          have Hb1 : Hid (Below w.heap.size w w1) := Lib.hid (by (repeat first | assumption | exact Below.refl _ _ | refine Below.drew ?_ | refine Below.drewN ?_ _ | refine Below.alloc ?_ (by (first | omega | (simp; done) | (simp; omega))) _ | refine Below.setCell ?_ (by (first | omega | (simp; done) | (simp; omega))) _ | refine Below.trans ?_ (Below.mono (by assumption) (by (first | omega | (simp; done) | (simp; omega))))))
          clear hb1 hc1 hf1 HAw
          go_wp2_with fail
          refine wp_region_held_drew (S := fun w' => Below w1.heap.size w1 w') (by kernel_rfl) ?_ (fun hHeld => ?_)
          · exact (Below.refl _ _).drew
          refine tkW (v := ?_) 0 rfl (by kernel_rfl) (by kernel_rfl) (by kernel_rfl) (fun _ _ _ h => h) (by rfl) (by assumption) ?_ ?_
          rotate_left
          · intro w' hSw; (try dsimp only at hSw); have kg0 : w'.cell? ⟨w.heap.size, 0, none⟩ = some (.slice aS ns cS) := (hSw.cell (p := ⟨w.heap.size, 0, none⟩) (by first | exact lt_g0 | omega)).trans g0; have kg1 : w'.cell? ⟨w.heap.size, 1, none⟩ = some (.slice ap np cp) := (hSw.cell (p := ⟨w.heap.size, 1, none⟩) (by first | exact lt_g1 | omega)).trans g1; have kg2 : w'.cell? ⟨w.heap.size + 1, 0, none⟩ = some (.slice ax nx cx) := (hSw.cell (p := ⟨w.heap.size + 1, 0, none⟩) (by first | exact lt_g2 | omega)).trans g2; have kg3 : w'.cell? ⟨w.heap.size + 1, 1, none⟩ = some (.slice aT nt cT) := (hSw.cell (p := ⟨w.heap.size + 1, 1, none⟩) (by first | exact lt_g3 | omega)).trans g3; clear hSw; go_simp; (try with_reducible rfl)
          (try simp only [Act.put, List.setIfInBounds_toArray, List.set_cons_zero, List.set_cons_succ])
          refine tkC 1 rfl (by kernel_rfl) (by rfl) (fun K hK => ?_)
          go_simp
          (go_at_call 29; refine (HFew.out _ (Hb1.out.trans (hHeld.mono (by omega)))).mono ?_; rintro e w2 ⟨rfl, hb2⟩; have hN := hHeld.trans (hb2.mono (by have := hHeld.size; omega)))
          (try dsimp only)
          refine hK.out _ _ ?_ (fun hHeld => ?_)
          · exact hN
          clear hK K
          (try simp only [Act.put, List.setIfInBounds_toArray, List.set_cons_zero, List.set_cons_succ])
          refine tkW (v := ?_) 2 rfl (by kernel_rfl) (by kernel_rfl) (by kernel_rfl) (fun _ _ _ h => h) (by rfl) (by assumption) ?_ ?_
          rotate_left
          · intro w' hSw; clear hSw; go_simp; (try with_reducible rfl)
          (try simp only [Act.put, List.setIfInBounds_toArray, List.set_cons_zero, List.set_cons_succ])
          refine tkW (v := ?_) 3 rfl (by kernel_rfl) (by kernel_rfl) (by kernel_rfl) (fun _ _ _ h => h) (by rfl) (by assumption) ?_ ?_
          rotate_left
          · intro w' hSw; clear hSw; go_simp; (try with_reducible rfl)
          (try simp only [Act.put, List.setIfInBounds_toArray, List.set_cons_zero, List.set_cons_succ])
          refine tkW (v := ?_) 4 rfl (by kernel_rfl) (by kernel_rfl) (by kernel_rfl) (fun _ _ _ h => h) (by rfl) (by assumption) ?_ ?_
          rotate_left
          · intro w' hSw; clear hSw; go_simp; (try with_reducible rfl)
          (try simp only [Act.put, List.setIfInBounds_toArray, List.set_cons_zero, List.set_cons_succ])
          refine tkW (v := ?_) 5 rfl (by kernel_rfl) (by kernel_rfl) (by kernel_rfl) (fun _ _ _ h => h) (by rfl) (by assumption) ?_ ?_
          rotate_left
          · intro w' hSw; (try dsimp only at hSw); have kg0 : w'.cell? ⟨w.heap.size, 0, none⟩ = some (.slice aS ns cS) := (hSw.cell (p := ⟨w.heap.size, 0, none⟩) (by first | exact lt_g0 | omega)).trans g0; have kg1 : w'.cell? ⟨w.heap.size, 1, none⟩ = some (.slice ap np cp) := (hSw.cell (p := ⟨w.heap.size, 1, none⟩) (by first | exact lt_g1 | omega)).trans g1; have kg2 : w'.cell? ⟨w.heap.size + 1, 0, none⟩ = some (.slice ax nx cx) := (hSw.cell (p := ⟨w.heap.size + 1, 0, none⟩) (by first | exact lt_g2 | omega)).trans g2; have kg3 : w'.cell? ⟨w.heap.size + 1, 1, none⟩ = some (.slice aT nt cT) := (hSw.cell (p := ⟨w.heap.size + 1, 1, none⟩) (by first | exact lt_g3 | omega)).trans g3; clear hSw; go_simp; (try with_reducible rfl)
          (try simp only [Act.put, List.setIfInBounds_toArray, List.set_cons_zero, List.set_cons_succ])
          refine tkW (v := ?_) 6 rfl (by kernel_rfl) (by kernel_rfl) (by kernel_rfl) (fun _ _ _ h => h) (by rfl) (by assumption) ?_ ?_
          rotate_left
          · intro w' hSw; clear hSw; go_simp; (try with_reducible rfl)
          (try simp only [Act.put, List.setIfInBounds_toArray, List.set_cons_zero, List.set_cons_succ])
          refine tkW (v := ?_) 7 rfl (by kernel_rfl) (by kernel_rfl) (by kernel_rfl) (fun _ _ _ h => h) (by rfl) (by assumption) ?_ ?_
          rotate_left
          · intro w' hSw; (try dsimp only at hSw); have kg0 : w'.cell? ⟨w.heap.size, 0, none⟩ = some (.slice aS ns cS) := (hSw.cell (p := ⟨w.heap.size, 0, none⟩) (by first | exact lt_g0 | omega)).trans g0; have kg1 : w'.cell? ⟨w.heap.size, 1, none⟩ = some (.slice ap np cp) := (hSw.cell (p := ⟨w.heap.size, 1, none⟩) (by first | exact lt_g1 | omega)).trans g1; have kg2 : w'.cell? ⟨w.heap.size + 1, 0, none⟩ = some (.slice ax nx cx) := (hSw.cell (p := ⟨w.heap.size + 1, 0, none⟩) (by first | exact lt_g2 | omega)).trans g2; have kg3 : w'.cell? ⟨w.heap.size + 1, 1, none⟩ = some (.slice aT nt cT) := (hSw.cell (p := ⟨w.heap.size + 1, 1, none⟩) (by first | exact lt_g3 | omega)).trans g3; clear hSw; go_simp; (try with_reducible rfl)
          (try simp only [Act.put, List.setIfInBounds_toArray, List.set_cons_zero, List.set_cons_succ])
          refine tkC 8 rfl (by kernel_rfl) (by rfl) (fun K hK => ?_)
          go_simp
          refine hK.out _ _ ?_ (fun hHeld => ?_)
          · exact hHeld.alloc (by have := hHeld.size; omega) _
          clear hK K
          (try simp only [Act.put, List.setIfInBounds_toArray, List.set_cons_zero, List.set_cons_succ])
          refine tkC 9 rfl (by kernel_rfl) (by rfl) (fun K hK => ?_)
          go_simp
          (go_at_call 30; refine (HSh.out _ _ (World.cell?_alloc_at _ _ _ _ rfl) (World.cell?_alloc_at _ _ _ _ rfl)).mono ?_; rintro e w3 ⟨rfl, rfl⟩; have hN := hHeld)
          (try dsimp only)
          refine hK.out _ _ ?_ (fun hHeld => ?_)
          · exact hN
          clear hK K
          (try simp only [Act.put, List.setIfInBounds_toArray, List.set_cons_zero, List.set_cons_succ])
          refine tkW (v := ?_) 10 rfl (by kernel_rfl) (by kernel_rfl) (by kernel_rfl) (fun _ _ _ h => h) (by rfl) (by assumption) ?_ ?_
          rotate_left
          · intro w' hSw; clear hSw; go_simp; (try with_reducible rfl)
          (try simp only [Act.put, List.setIfInBounds_toArray, List.set_cons_zero, List.set_cons_succ])
          refine tkW (v := ?_) 11 rfl (by kernel_rfl) (by kernel_rfl) (by kernel_rfl) (fun _ _ _ h => h) (by rfl) (by assumption) ?_ ?_
          rotate_left
          · intro w' hSw; clear hSw; go_simp; (try with_reducible rfl)
          (try simp only [Act.put, List.setIfInBounds_toArray, List.set_cons_zero, List.set_cons_succ])
          refine tkW (v := ?_) 12 rfl (by kernel_rfl) (by kernel_rfl) (by kernel_rfl) (fun _ _ _ h => h) (by rfl) (by assumption) ?_ ?_
          rotate_left
          · intro w' hSw; clear hSw; go_simp; (try with_reducible rfl)
          (try simp only [Act.put, List.setIfInBounds_toArray, List.set_cons_zero, List.set_cons_succ])
          refine tkW (v := ?_) 13 rfl (by kernel_rfl) (by kernel_rfl) (by kernel_rfl) (fun _ _ _ h => h) (by rfl) (by assumption) ?_ ?_
          rotate_left
          · intro w' hSw; (try dsimp only at hSw); have kg0 : w'.cell? ⟨w.heap.size, 0, none⟩ = some (.slice aS ns cS) := (hSw.cell (p := ⟨w.heap.size, 0, none⟩) (by first | exact lt_g0 | omega)).trans g0; have kg1 : w'.cell? ⟨w.heap.size, 1, none⟩ = some (.slice ap np cp) := (hSw.cell (p := ⟨w.heap.size, 1, none⟩) (by first | exact lt_g1 | omega)).trans g1; have kg2 : w'.cell? ⟨w.heap.size + 1, 0, none⟩ = some (.slice ax nx cx) := (hSw.cell (p := ⟨w.heap.size + 1, 0, none⟩) (by first | exact lt_g2 | omega)).trans g2; have kg3 : w'.cell? ⟨w.heap.size + 1, 1, none⟩ = some (.slice aT nt cT) := (hSw.cell (p := ⟨w.heap.size + 1, 1, none⟩) (by first | exact lt_g3 | omega)).trans g3; clear hSw; go_simp; (try with_reducible rfl)
          (try simp only [Act.put, List.setIfInBounds_toArray, List.set_cons_zero, List.set_cons_succ])
          refine tkC 14 rfl (by kernel_rfl) (by rfl) (fun K hK => ?_)
          go_simp
          (go_at_call 31; refine (HR.out _ (Hb1.out.trans (hHeld.mono (by omega)))).mono ?_; rintro e w4 ⟨rfl, hb4⟩; have hN := hHeld.trans (hb4.mono (by have := hHeld.size; omega)))
          (try dsimp only)
          refine hK.out _ _ ?_ (fun hHeld => ?_)
          · exact hN
          clear hK K
          (try simp only [Act.put, List.setIfInBounds_toArray, List.set_cons_zero, List.set_cons_succ])
          refine tkW (v := ?_) 15 rfl (by kernel_rfl) (by kernel_rfl) (by kernel_rfl) (fun _ _ _ h => h) (by rfl) (by assumption) ?_ ?_
          rotate_left
          · intro w' hSw; clear hSw; go_simp; (try with_reducible rfl)
          (try simp only [Act.put, List.setIfInBounds_toArray, List.set_cons_zero, List.set_cons_succ])
          refine tkW (v := ?_) 16 rfl (by kernel_rfl) (by kernel_rfl) (by kernel_rfl) (fun _ _ _ h => h) (by rfl) (by assumption) ?_ ?_
          rotate_left
          · intro w' hSw; clear hSw; go_simp; (try with_reducible rfl)
          (try simp only [Act.put, List.setIfInBounds_toArray, List.set_cons_zero, List.set_cons_succ])
          refine tkW (v := ?_) 17 rfl (by kernel_rfl) (by kernel_rfl) (by kernel_rfl) (fun _ _ _ h => h) (by rfl) (by assumption) ?_ ?_
          rotate_left
          · intro w' hSw; clear hSw; go_simp; (try with_reducible rfl)
          (try simp only [Act.put, List.setIfInBounds_toArray, List.set_cons_zero, List.set_cons_succ])
          refine tkW (v := ?_) 18 rfl (by kernel_rfl) (by kernel_rfl) (by kernel_rfl) (fun _ _ _ h => h) (by rfl) (by assumption) ?_ ?_
          rotate_left
          · intro w' hSw; clear hSw; go_simp; (try with_reducible rfl)
          (try simp only [Act.put, List.setIfInBounds_toArray, List.set_cons_zero, List.set_cons_succ])
          refine tkW (v := ?_) 19 rfl (by kernel_rfl) (by kernel_rfl) (by kernel_rfl) (fun _ _ _ h => h) (by rfl) (by assumption) ?_ ?_
          rotate_left
          · intro w' hSw; (try dsimp only at hSw); have kg0 : w'.cell? ⟨w.heap.size, 0, none⟩ = some (.slice aS ns cS) := (hSw.cell (p := ⟨w.heap.size, 0, none⟩) (by first | exact lt_g0 | omega)).trans g0; have kg1 : w'.cell? ⟨w.heap.size, 1, none⟩ = some (.slice ap np cp) := (hSw.cell (p := ⟨w.heap.size, 1, none⟩) (by first | exact lt_g1 | omega)).trans g1; have kg2 : w'.cell? ⟨w.heap.size + 1, 0, none⟩ = some (.slice ax nx cx) := (hSw.cell (p := ⟨w.heap.size + 1, 0, none⟩) (by first | exact lt_g2 | omega)).trans g2; have kg3 : w'.cell? ⟨w.heap.size + 1, 1, none⟩ = some (.slice aT nt cT) := (hSw.cell (p := ⟨w.heap.size + 1, 1, none⟩) (by first | exact lt_g3 | omega)).trans g3; clear hSw; go_simp; (try with_reducible rfl)
          (try simp only [Act.put, List.setIfInBounds_toArray, List.set_cons_zero, List.set_cons_succ])
          refine tkW (v := ?_) 20 rfl (by kernel_rfl) (by kernel_rfl) (by kernel_rfl) (fun _ _ _ h => h) (by rfl) (by assumption) ?_ ?_
          rotate_left
          · intro w' hSw; clear hSw; go_simp; (try with_reducible rfl)
          (try simp only [Act.put, List.setIfInBounds_toArray, List.set_cons_zero, List.set_cons_succ])
          refine tkW (v := ?_) 21 rfl (by kernel_rfl) (by kernel_rfl) (by kernel_rfl) (fun _ _ _ h => h) (by rfl) (by assumption) ?_ ?_
          rotate_left
          · intro w' hSw; clear hSw; go_simp; (try with_reducible rfl)
          (try simp only [Act.put, List.setIfInBounds_toArray, List.set_cons_zero, List.set_cons_succ])
          refine tkW (v := ?_) 22 rfl (by kernel_rfl) (by kernel_rfl) (by kernel_rfl) (fun _ _ _ h => h) (by rfl) (by assumption) ?_ ?_
          rotate_left
          · intro w' hSw; clear hSw; go_simp; (try with_reducible rfl)
          (try simp only [Act.put, List.setIfInBounds_toArray, List.set_cons_zero, List.set_cons_succ])
          refine tkW (v := ?_) 23 rfl (by kernel_rfl) (by kernel_rfl) (by kernel_rfl) (fun _ _ _ h => h) (by rfl) (by assumption) ?_ ?_
          rotate_left
          · intro w' hSw; clear hSw; go_simp; (try with_reducible rfl)
          (try simp only [Act.put, List.setIfInBounds_toArray, List.set_cons_zero, List.set_cons_succ])
          refine tkU 24 rfl (by kernel_rfl) (by kernel_rfl) (by kernel_rfl) (fun _ _ _ h => h) (by rfl) (by assumption) ?_
          (try simp only [Act.put, List.setIfInBounds_toArray, List.set_cons_zero, List.set_cons_succ])
          refine tkU 25 rfl (by kernel_rfl) (by kernel_rfl) (by kernel_rfl) (fun _ _ _ h => h) (by rfl) (by assumption) ?_
          (try simp only [Act.put, List.setIfInBounds_toArray, List.set_cons_zero, List.set_cons_succ])
          refine tkU 26 rfl (by kernel_rfl) (by kernel_rfl) (by kernel_rfl) (fun _ _ _ h => h) (by rfl) (by assumption) ?_
          (try simp only [Act.put, List.setIfInBounds_toArray, List.set_cons_zero, List.set_cons_succ])
          refine tkU 27 rfl (by kernel_rfl) (by kernel_rfl) (by kernel_rfl) (fun _ _ _ h => h) (by rfl) (by assumption) ?_
          (try simp only [Act.put, List.setIfInBounds_toArray, List.set_cons_zero, List.set_cons_succ])
          refine tkU 28 rfl (by kernel_rfl) (by kernel_rfl) (by kernel_rfl) (fun _ _ _ h => h) (by rfl) (by assumption) ?_
          (try simp only [Act.put, List.setIfInBounds_toArray, List.set_cons_zero, List.set_cons_succ])
          refine tkU 29 rfl (by kernel_rfl) (by kernel_rfl) (by kernel_rfl) (fun _ _ _ h => h) (by rfl) (by assumption) ?_
          (try simp only [Act.put, List.setIfInBounds_toArray, List.set_cons_zero, List.set_cons_succ])
          refine tkU 30 rfl (by kernel_rfl) (by kernel_rfl) (by kernel_rfl) (fun _ _ _ h => h) (by rfl) (by assumption) ?_
          (try simp only [Act.put, List.setIfInBounds_toArray, List.set_cons_zero, List.set_cons_succ])
          refine tkU 31 rfl (by kernel_rfl) (by kernel_rfl) (by kernel_rfl) (fun _ _ _ h => h) (by rfl) (by assumption) ?_
          (try simp only [Act.put, List.setIfInBounds_toArray, List.set_cons_zero, List.set_cons_succ])
          refine tkW (v := ?_) 32 rfl (by kernel_rfl) (by kernel_rfl) (by kernel_rfl) (fun _ _ _ h => h) (by rfl) (by assumption) ?_ ?_
          rotate_left
          · intro w' hSw; clear hSw; go_simp; (try with_reducible rfl)
          (try simp only [Act.put, List.setIfInBounds_toArray, List.set_cons_zero, List.set_cons_succ])
          refine tkW (v := ?_) 33 rfl (by kernel_rfl) (by kernel_rfl) (by kernel_rfl) (fun _ _ _ h => h) (by rfl) (by assumption) ?_ ?_
          rotate_left
          · intro w' hSw; clear hSw; go_simp; (try with_reducible rfl)
          (try simp only [Act.put, List.setIfInBounds_toArray, List.set_cons_zero, List.set_cons_succ])
          refine tkU 34 rfl (by kernel_rfl) (by kernel_rfl) (by kernel_rfl) (fun _ _ _ h => h) (by rfl) (by assumption) ?_
          (try simp only [Act.put, List.setIfInBounds_toArray, List.set_cons_zero, List.set_cons_succ])
          refine tkU 35 rfl (by kernel_rfl) (by kernel_rfl) (by kernel_rfl) (fun _ _ _ h => h) (by rfl) (by assumption) ?_
          (try simp only [Act.put, List.setIfInBounds_toArray, List.set_cons_zero, List.set_cons_succ])
          refine tkU 36 rfl (by kernel_rfl) (by kernel_rfl) (by kernel_rfl) (fun _ _ _ h => h) (by rfl) (by assumption) ?_
          (try simp only [Act.put, List.setIfInBounds_toArray, List.set_cons_zero, List.set_cons_succ])
          refine tkU 37 rfl (by kernel_rfl) (by kernel_rfl) (by kernel_rfl) (fun _ _ _ h => h) (by rfl) (by assumption) ?_
          (try simp only [Act.put, List.setIfInBounds_toArray, List.set_cons_zero, List.set_cons_succ])
          refine tkU 38 rfl (by kernel_rfl) (by kernel_rfl) (by kernel_rfl) (fun _ _ _ h => h) (by rfl) (by assumption) ?_
          (try simp only [Act.put, List.setIfInBounds_toArray, List.set_cons_zero, List.set_cons_succ])
          refine tkU 39 rfl (by kernel_rfl) (by kernel_rfl) (by kernel_rfl) (fun _ _ _ h => h) (by rfl) (by assumption) ?_
          (try simp only [Act.put, List.setIfInBounds_toArray, List.set_cons_zero, List.set_cons_succ])
          refine tkU 40 rfl (by kernel_rfl) (by kernel_rfl) (by kernel_rfl) (fun _ _ _ h => h) (by rfl) (by assumption) ?_
          (try simp only [Act.put, List.setIfInBounds_toArray, List.set_cons_zero, List.set_cons_succ])
          refine tkU 41 rfl (by kernel_rfl) (by kernel_rfl) (by kernel_rfl) (fun _ _ _ h => h) (by rfl) (by assumption) ?_
          (try simp only [Act.put, List.setIfInBounds_toArray, List.set_cons_zero, List.set_cons_succ])
          refine tkW (v := ?_) 42 rfl (by kernel_rfl) (by kernel_rfl) (by kernel_rfl) (fun _ _ _ h => h) (by rfl) (by assumption) ?_ ?_
          rotate_left
          · intro w' hSw; clear hSw; go_simp; (try with_reducible rfl)
          (try simp only [Act.put, List.setIfInBounds_toArray, List.set_cons_zero, List.set_cons_succ])
          refine wpAnyH_done (by kernel_rfl) ?_ _
          go_wp2
          go_ret
          exact ⟨rfl, Hb1.out.trans (hHeld.mono (by omega))⟩
      · rw [show rightB s np = false by simpa using hr] at HR
        clear hS hP hX hT hfew hfe hr
        go_enter Try.func8, Try.ntmps8
        go_wp2_with fail
        ((with_reducible refine (HAw.out _).mono ?_); rintro e w1 ⟨rfl, hb1⟩)
        obtain ⟨hc1, hf1⟩ := bcell hb1
        have hz1 := hb1.size
        simp at hz1 hc1 hf1
        have g0 : w1.cell? ⟨w.heap.size, 0, none⟩ = some (.slice aS ns cS) := by rw [hc1 _ _ (by omega)]; go_simp
        have g1 : w1.cell? ⟨w.heap.size, 1, none⟩ = some (.slice ap np cp) := by rw [hc1 _ _ (by omega)]; go_simp
        have g2 : w1.cell? ⟨w.heap.size + 1, 0, none⟩ = some (.slice ax nx cx) := by rw [hc1 _ _ (by omega)]; go_simp
        have g3 : w1.cell? ⟨w.heap.size + 1, 1, none⟩ = some (.slice aT nt cT) := by rw [hc1 _ _ (by omega)]; go_simp
        have lt1 : w.heap.size + 1 < w1.heap.size := by omega
        have lt_g0 : w.heap.size < w1.heap.size := by omega
        have lt_g1 := lt_g0
        have lt_g2 := lt1
        have lt_g3 := lt1
        have Hb1 : Hid (Below w.heap.size w w1) := Lib.hid (by (repeat first | assumption | exact Below.refl _ _ | refine Below.drew ?_ | refine Below.drewN ?_ _ | refine Below.alloc ?_ (by (first | omega | (simp; done) | (simp; omega))) _ | refine Below.setCell ?_ (by (first | omega | (simp; done) | (simp; omega))) _ | refine Below.trans ?_ (Below.mono (by assumption) (by (first | omega | (simp; done) | (simp; omega))))))
        clear hb1 hc1 hf1 HAw
        go_wp2_with fail
        refine wp_region_held_drew (S := fun w' => Below w1.heap.size w1 w') (by kernel_rfl) ?_ (fun hHeld => ?_)
        · exact (Below.refl _ _).drew
        refine tkW (v := ?_) 0 rfl (by kernel_rfl) (by kernel_rfl) (by kernel_rfl) (fun _ _ _ h => h) (by rfl) (by assumption) ?_ ?_
        rotate_left
        · intro w' hSw; (try dsimp only at hSw); have kg0 : w'.cell? ⟨w.heap.size, 0, none⟩ = some (.slice aS ns cS) := (hSw.cell (p := ⟨w.heap.size, 0, none⟩) (by first | exact lt_g0 | omega)).trans g0; have kg1 : w'.cell? ⟨w.heap.size, 1, none⟩ = some (.slice ap np cp) := (hSw.cell (p := ⟨w.heap.size, 1, none⟩) (by first | exact lt_g1 | omega)).trans g1; have kg2 : w'.cell? ⟨w.heap.size + 1, 0, none⟩ = some (.slice ax nx cx) := (hSw.cell (p := ⟨w.heap.size + 1, 0, none⟩) (by first | exact lt_g2 | omega)).trans g2; have kg3 : w'.cell? ⟨w.heap.size + 1, 1, none⟩ = some (.slice aT nt cT) := (hSw.cell (p := ⟨w.heap.size + 1, 1, none⟩) (by first | exact lt_g3 | omega)).trans g3; clear hSw; go_simp; (try with_reducible rfl)
        (try simp only [Act.put, List.setIfInBounds_toArray, List.set_cons_zero, List.set_cons_succ])
        refine tkC 1 rfl (by kernel_rfl) (by rfl) (fun K hK => ?_)
        go_simp
        (go_at_call 29; refine (HFew.out _ (Hb1.out.trans (hHeld.mono (by omega)))).mono ?_; rintro e w2 ⟨rfl, hb2⟩; have hN := hHeld.trans (hb2.mono (by have := hHeld.size; omega)))
        (try dsimp only)
        refine hK.out _ _ ?_ (fun hHeld => ?_)
        · exact hN
        clear hK K
        (try simp only [Act.put, List.setIfInBounds_toArray, List.set_cons_zero, List.set_cons_succ])
        refine tkW (v := ?_) 2 rfl (by kernel_rfl) (by kernel_rfl) (by kernel_rfl) (fun _ _ _ h => h) (by rfl) (by assumption) ?_ ?_
        rotate_left
        · intro w' hSw; clear hSw; go_simp; (try with_reducible rfl)
        (try simp only [Act.put, List.setIfInBounds_toArray, List.set_cons_zero, List.set_cons_succ])
        refine tkW (v := ?_) 3 rfl (by kernel_rfl) (by kernel_rfl) (by kernel_rfl) (fun _ _ _ h => h) (by rfl) (by assumption) ?_ ?_
        rotate_left
        · intro w' hSw; clear hSw; go_simp; (try with_reducible rfl)
        (try simp only [Act.put, List.setIfInBounds_toArray, List.set_cons_zero, List.set_cons_succ])
        refine tkW (v := ?_) 4 rfl (by kernel_rfl) (by kernel_rfl) (by kernel_rfl) (fun _ _ _ h => h) (by rfl) (by assumption) ?_ ?_
        rotate_left
        · intro w' hSw; clear hSw; go_simp; (try with_reducible rfl)
        (try simp only [Act.put, List.setIfInBounds_toArray, List.set_cons_zero, List.set_cons_succ])
        refine tkW (v := ?_) 5 rfl (by kernel_rfl) (by kernel_rfl) (by kernel_rfl) (fun _ _ _ h => h) (by rfl) (by assumption) ?_ ?_
        rotate_left
        · intro w' hSw; (try dsimp only at hSw); have kg0 : w'.cell? ⟨w.heap.size, 0, none⟩ = some (.slice aS ns cS) := (hSw.cell (p := ⟨w.heap.size, 0, none⟩) (by first | exact lt_g0 | omega)).trans g0; have kg1 : w'.cell? ⟨w.heap.size, 1, none⟩ = some (.slice ap np cp) := (hSw.cell (p := ⟨w.heap.size, 1, none⟩) (by first | exact lt_g1 | omega)).trans g1; have kg2 : w'.cell? ⟨w.heap.size + 1, 0, none⟩ = some (.slice ax nx cx) := (hSw.cell (p := ⟨w.heap.size + 1, 0, none⟩) (by first | exact lt_g2 | omega)).trans g2; have kg3 : w'.cell? ⟨w.heap.size + 1, 1, none⟩ = some (.slice aT nt cT) := (hSw.cell (p := ⟨w.heap.size + 1, 1, none⟩) (by first | exact lt_g3 | omega)).trans g3; clear hSw; go_simp; (try with_reducible rfl)
        (try simp only [Act.put, List.setIfInBounds_toArray, List.set_cons_zero, List.set_cons_succ])
        refine tkW (v := ?_) 6 rfl (by kernel_rfl) (by kernel_rfl) (by kernel_rfl) (fun _ _ _ h => h) (by rfl) (by assumption) ?_ ?_
        rotate_left
        · intro w' hSw; clear hSw; go_simp; (try with_reducible rfl)
        (try simp only [Act.put, List.setIfInBounds_toArray, List.set_cons_zero, List.set_cons_succ])
        refine tkW (v := ?_) 7 rfl (by kernel_rfl) (by kernel_rfl) (by kernel_rfl) (fun _ _ _ h => h) (by rfl) (by assumption) ?_ ?_
        rotate_left
        · intro w' hSw; (try dsimp only at hSw); have kg0 : w'.cell? ⟨w.heap.size, 0, none⟩ = some (.slice aS ns cS) := (hSw.cell (p := ⟨w.heap.size, 0, none⟩) (by first | exact lt_g0 | omega)).trans g0; have kg1 : w'.cell? ⟨w.heap.size, 1, none⟩ = some (.slice ap np cp) := (hSw.cell (p := ⟨w.heap.size, 1, none⟩) (by first | exact lt_g1 | omega)).trans g1; have kg2 : w'.cell? ⟨w.heap.size + 1, 0, none⟩ = some (.slice ax nx cx) := (hSw.cell (p := ⟨w.heap.size + 1, 0, none⟩) (by first | exact lt_g2 | omega)).trans g2; have kg3 : w'.cell? ⟨w.heap.size + 1, 1, none⟩ = some (.slice aT nt cT) := (hSw.cell (p := ⟨w.heap.size + 1, 1, none⟩) (by first | exact lt_g3 | omega)).trans g3; clear hSw; go_simp; (try with_reducible rfl)
        (try simp only [Act.put, List.setIfInBounds_toArray, List.set_cons_zero, List.set_cons_succ])
        refine tkC 8 rfl (by kernel_rfl) (by rfl) (fun K hK => ?_)
        go_simp
        refine hK.out _ _ ?_ (fun hHeld => ?_)
        · exact hHeld.alloc (by have := hHeld.size; omega) _
        clear hK K
        (try simp only [Act.put, List.setIfInBounds_toArray, List.set_cons_zero, List.set_cons_succ])
        refine tkC 9 rfl (by kernel_rfl) (by rfl) (fun K hK => ?_)
        go_simp
        (go_at_call 30; refine (HSh.out _ _ (World.cell?_alloc_at _ _ _ _ rfl) (World.cell?_alloc_at _ _ _ _ rfl)).mono ?_; rintro e w3 ⟨rfl, rfl⟩; have hN := hHeld)
        (try dsimp only)
        refine hK.out _ _ ?_ (fun hHeld => ?_)
        · exact hN
        clear hK K
        (try simp only [Act.put, List.setIfInBounds_toArray, List.set_cons_zero, List.set_cons_succ])
        refine tkW (v := ?_) 10 rfl (by kernel_rfl) (by kernel_rfl) (by kernel_rfl) (fun _ _ _ h => h) (by rfl) (by assumption) ?_ ?_
        rotate_left
        · intro w' hSw; clear hSw; go_simp; (try with_reducible rfl)
        (try simp only [Act.put, List.setIfInBounds_toArray, List.set_cons_zero, List.set_cons_succ])
        refine tkW (v := ?_) 11 rfl (by kernel_rfl) (by kernel_rfl) (by kernel_rfl) (fun _ _ _ h => h) (by rfl) (by assumption) ?_ ?_
        rotate_left
        · intro w' hSw; clear hSw; go_simp; (try with_reducible rfl)
        (try simp only [Act.put, List.setIfInBounds_toArray, List.set_cons_zero, List.set_cons_succ])
        refine tkW (v := ?_) 12 rfl (by kernel_rfl) (by kernel_rfl) (by kernel_rfl) (fun _ _ _ h => h) (by rfl) (by assumption) ?_ ?_
        rotate_left
        · intro w' hSw; clear hSw; go_simp; (try with_reducible rfl)
        (try simp only [Act.put, List.setIfInBounds_toArray, List.set_cons_zero, List.set_cons_succ])
        refine tkW (v := ?_) 13 rfl (by kernel_rfl) (by kernel_rfl) (by kernel_rfl) (fun _ _ _ h => h) (by rfl) (by assumption) ?_ ?_
        rotate_left
        · intro w' hSw; (try dsimp only at hSw); have kg0 : w'.cell? ⟨w.heap.size, 0, none⟩ = some (.slice aS ns cS) := (hSw.cell (p := ⟨w.heap.size, 0, none⟩) (by first | exact lt_g0 | omega)).trans g0; have kg1 : w'.cell? ⟨w.heap.size, 1, none⟩ = some (.slice ap np cp) := (hSw.cell (p := ⟨w.heap.size, 1, none⟩) (by first | exact lt_g1 | omega)).trans g1; have kg2 : w'.cell? ⟨w.heap.size + 1, 0, none⟩ = some (.slice ax nx cx) := (hSw.cell (p := ⟨w.heap.size + 1, 0, none⟩) (by first | exact lt_g2 | omega)).trans g2; have kg3 : w'.cell? ⟨w.heap.size + 1, 1, none⟩ = some (.slice aT nt cT) := (hSw.cell (p := ⟨w.heap.size + 1, 1, none⟩) (by first | exact lt_g3 | omega)).trans g3; clear hSw; go_simp; (try with_reducible rfl)
        (try simp only [Act.put, List.setIfInBounds_toArray, List.set_cons_zero, List.set_cons_succ])
        refine tkC 14 rfl (by kernel_rfl) (by rfl) (fun K hK => ?_)
        go_simp
        (go_at_call 31; refine (HR.out _ (Hb1.out.trans (hHeld.mono (by omega)))).mono ?_; rintro e w4 ⟨rfl, hb4⟩; have hN := hHeld.trans (hb4.mono (by have := hHeld.size; omega)))
        (try dsimp only)
        refine hK.out _ _ ?_ (fun hHeld => ?_)
        · exact hN
        clear hK K
        (try simp only [Act.put, List.setIfInBounds_toArray, List.set_cons_zero, List.set_cons_succ])
        refine tkW (v := ?_) 15 rfl (by kernel_rfl) (by kernel_rfl) (by kernel_rfl) (fun _ _ _ h => h) (by rfl) (by assumption) ?_ ?_
        rotate_left
        · intro w' hSw; clear hSw; go_simp; (try with_reducible rfl)
        (try simp only [Act.put, List.setIfInBounds_toArray, List.set_cons_zero, List.set_cons_succ])
        refine tkW (v := ?_) 16 rfl (by kernel_rfl) (by kernel_rfl) (by kernel_rfl) (fun _ _ _ h => h) (by rfl) (by assumption) ?_ ?_
        rotate_left
        · intro w' hSw; clear hSw; go_simp; (try with_reducible rfl)
        (try simp only [Act.put, List.setIfInBounds_toArray, List.set_cons_zero, List.set_cons_succ])
        refine tkW (v := ?_) 17 rfl (by kernel_rfl) (by kernel_rfl) (by kernel_rfl) (fun _ _ _ h => h) (by rfl) (by assumption) ?_ ?_
        rotate_left
        · intro w' hSw; clear hSw; go_simp; (try with_reducible rfl)
        (try simp only [Act.put, List.setIfInBounds_toArray, List.set_cons_zero, List.set_cons_succ])
        refine tkU 18 rfl (by kernel_rfl) (by kernel_rfl) (by kernel_rfl) (fun _ _ _ h => h) (by rfl) (by assumption) ?_
        (try simp only [Act.put, List.setIfInBounds_toArray, List.set_cons_zero, List.set_cons_succ])
        refine tkU 19 rfl (by kernel_rfl) (by kernel_rfl) (by kernel_rfl) (fun _ _ _ h => h) (by rfl) (by assumption) ?_
        (try simp only [Act.put, List.setIfInBounds_toArray, List.set_cons_zero, List.set_cons_succ])
        refine tkU 20 rfl (by kernel_rfl) (by kernel_rfl) (by kernel_rfl) (fun _ _ _ h => h) (by rfl) (by assumption) ?_
        (try simp only [Act.put, List.setIfInBounds_toArray, List.set_cons_zero, List.set_cons_succ])
        refine tkU 21 rfl (by kernel_rfl) (by kernel_rfl) (by kernel_rfl) (fun _ _ _ h => h) (by rfl) (by assumption) ?_
        (try simp only [Act.put, List.setIfInBounds_toArray, List.set_cons_zero, List.set_cons_succ])
        refine tkW (v := ?_) 22 rfl (by kernel_rfl) (by kernel_rfl) (by kernel_rfl) (fun _ _ _ h => h) (by rfl) (by assumption) ?_ ?_
        rotate_left
        · intro w' hSw; clear hSw; go_simp; (try with_reducible rfl)
        (try simp only [Act.put, List.setIfInBounds_toArray, List.set_cons_zero, List.set_cons_succ])
        refine tkW (v := ?_) 23 rfl (by kernel_rfl) (by kernel_rfl) (by kernel_rfl) (fun _ _ _ h => h) (by rfl) (by assumption) ?_ ?_
        rotate_left
        · intro w' hSw; clear hSw; go_simp; (try with_reducible rfl)
        (try simp only [Act.put, List.setIfInBounds_toArray, List.set_cons_zero, List.set_cons_succ])
        refine tkU 24 rfl (by kernel_rfl) (by kernel_rfl) (by kernel_rfl) (fun _ _ _ h => h) (by rfl) (by assumption) ?_
        (try simp only [Act.put, List.setIfInBounds_toArray, List.set_cons_zero, List.set_cons_succ])
        refine tkU 25 rfl (by kernel_rfl) (by kernel_rfl) (by kernel_rfl) (fun _ _ _ h => h) (by rfl) (by assumption) ?_
        (try simp only [Act.put, List.setIfInBounds_toArray, List.set_cons_zero, List.set_cons_succ])
        refine tkU 26 rfl (by kernel_rfl) (by kernel_rfl) (by kernel_rfl) (fun _ _ _ h => h) (by rfl) (by assumption) ?_
        (try simp only [Act.put, List.setIfInBounds_toArray, List.set_cons_zero, List.set_cons_succ])
        refine tkU 27 rfl (by kernel_rfl) (by kernel_rfl) (by kernel_rfl) (fun _ _ _ h => h) (by rfl) (by assumption) ?_
        (try simp only [Act.put, List.setIfInBounds_toArray, List.set_cons_zero, List.set_cons_succ])
        refine tkU 28 rfl (by kernel_rfl) (by kernel_rfl) (by kernel_rfl) (fun _ _ _ h => h) (by rfl) (by assumption) ?_
        (try simp only [Act.put, List.setIfInBounds_toArray, List.set_cons_zero, List.set_cons_succ])
        refine tkU 29 rfl (by kernel_rfl) (by kernel_rfl) (by kernel_rfl) (fun _ _ _ h => h) (by rfl) (by assumption) ?_
        (try simp only [Act.put, List.setIfInBounds_toArray, List.set_cons_zero, List.set_cons_succ])
        refine tkU 30 rfl (by kernel_rfl) (by kernel_rfl) (by kernel_rfl) (fun _ _ _ h => h) (by rfl) (by assumption) ?_
        (try simp only [Act.put, List.setIfInBounds_toArray, List.set_cons_zero, List.set_cons_succ])
        refine tkU 31 rfl (by kernel_rfl) (by kernel_rfl) (by kernel_rfl) (fun _ _ _ h => h) (by rfl) (by assumption) ?_
        (try simp only [Act.put, List.setIfInBounds_toArray, List.set_cons_zero, List.set_cons_succ])
        refine tkW (v := ?_) 32 rfl (by kernel_rfl) (by kernel_rfl) (by kernel_rfl) (fun _ _ _ h => h) (by rfl) (by assumption) ?_ ?_
        rotate_left
        · intro w' hSw; clear hSw; go_simp; (try with_reducible rfl)
        (try simp only [Act.put, List.setIfInBounds_toArray, List.set_cons_zero, List.set_cons_succ])
        refine tkW (v := ?_) 33 rfl (by kernel_rfl) (by kernel_rfl) (by kernel_rfl) (fun _ _ _ h => h) (by rfl) (by assumption) ?_ ?_
        rotate_left
        · intro w' hSw; clear hSw; go_simp; (try with_reducible rfl)
        (try simp only [Act.put, List.setIfInBounds_toArray, List.set_cons_zero, List.set_cons_succ])
        refine tkU 34 rfl (by kernel_rfl) (by kernel_rfl) (by kernel_rfl) (fun _ _ _ h => h) (by rfl) (by assumption) ?_
        (try simp only [Act.put, List.setIfInBounds_toArray, List.set_cons_zero, List.set_cons_succ])
        refine tkU 35 rfl (by kernel_rfl) (by kernel_rfl) (by kernel_rfl) (fun _ _ _ h => h) (by rfl) (by assumption) ?_
        (try simp only [Act.put, List.setIfInBounds_toArray, List.set_cons_zero, List.set_cons_succ])
        refine tkU 36 rfl (by kernel_rfl) (by kernel_rfl) (by kernel_rfl) (fun _ _ _ h => h) (by rfl) (by assumption) ?_
        (try simp only [Act.put, List.setIfInBounds_toArray, List.set_cons_zero, List.set_cons_succ])
        refine tkU 37 rfl (by kernel_rfl) (by kernel_rfl) (by kernel_rfl) (fun _ _ _ h => h) (by rfl) (by assumption) ?_
        (try simp only [Act.put, List.setIfInBounds_toArray, List.set_cons_zero, List.set_cons_succ])
        refine tkU 38 rfl (by kernel_rfl) (by kernel_rfl) (by kernel_rfl) (fun _ _ _ h => h) (by rfl) (by assumption) ?_
        (try simp only [Act.put, List.setIfInBounds_toArray, List.set_cons_zero, List.set_cons_succ])
        refine tkU 39 rfl (by kernel_rfl) (by kernel_rfl) (by kernel_rfl) (fun _ _ _ h => h) (by rfl) (by assumption) ?_
        (try simp only [Act.put, List.setIfInBounds_toArray, List.set_cons_zero, List.set_cons_succ])
        refine tkU 40 rfl (by kernel_rfl) (by kernel_rfl) (by kernel_rfl) (fun _ _ _ h => h) (by rfl) (by assumption) ?_
        (try simp only [Act.put, List.setIfInBounds_toArray, List.set_cons_zero, List.set_cons_succ])
        refine tkU 41 rfl (by kernel_rfl) (by kernel_rfl) (by kernel_rfl) (fun _ _ _ h => h) (by rfl) (by assumption) ?_
        (try simp only [Act.put, List.setIfInBounds_toArray, List.set_cons_zero, List.set_cons_succ])
        refine tkW (v := ?_) 42 rfl (by kernel_rfl) (by kernel_rfl) (by kernel_rfl) (fun _ _ _ h => h) (by rfl) (by assumption) ?_ ?_
        rotate_left
        · intro w' hSw; clear hSw; go_simp; (try with_reducible rfl)
        (try simp only [Act.put, List.setIfInBounds_toArray, List.set_cons_zero, List.set_cons_succ])
        refine wpAnyH_done (by kernel_rfl) ?_ _
        go_wp2
        go_ret
        exact ⟨rfl, Hb1.out.trans (hHeld.mono (by omega))⟩
    · rw [show decide (nx ≤ 100 ∧ nt ≤ 100) = false by simpa using hsx] at HSh
      clear hS hP hX hT hfew hfe HR
      go_enter Try.func8, Try.ntmps8
      go_wp2_with fail
      ((with_reducible refine (HAw.out _).mono ?_); rintro e w1 ⟨rfl, hb1⟩)
      obtain ⟨hc1, hf1⟩ := bcell hb1
      have hz1 := hb1.size
      simp at hz1 hc1 hf1
      have g0 : w1.cell? ⟨w.heap.size, 0, none⟩ = some (.slice aS ns cS) := by rw [hc1 _ _ (by omega)]; go_simp
      have g1 : w1.cell? ⟨w.heap.size, 1, none⟩ = some (.slice ap np cp) := by rw [hc1 _ _ (by omega)]; go_simp
      have g2 : w1.cell? ⟨w.heap.size + 1, 0, none⟩ = some (.slice ax nx cx) := by rw [hc1 _ _ (by omega)]; go_simp
      have g3 : w1.cell? ⟨w.heap.size + 1, 1, none⟩ = some (.slice aT nt cT) := by rw [hc1 _ _ (by omega)]; go_simp
      have lt1 : w.heap.size + 1 < w1.heap.size := by omega
      have lt_g0 : w.heap.size < w1.heap.size := by omega
      have lt_g1 := lt_g0
      have lt_g2 := lt1
      have lt_g3 := lt1
      have Hb1 : Hid (Below w.heap.size w w1) := Lib.hid (by (repeat first | assumption | exact Below.refl _ _ | refine Below.drew ?_ | refine Below.drewN ?_ _ | refine Below.alloc ?_ (by (first | omega | (simp; done) | (simp; omega))) _ | refine Below.setCell ?_ (by (first | omega | (simp; done) | (simp; omega))) _ | refine Below.trans ?_ (Below.mono (by assumption) (by (first | omega | (simp; done) | (simp; omega))))))
      clear hb1 hc1 hf1 HAw
      go_wp2_with fail
      refine wp_region_held_drew (S := fun w' => Below w1.heap.size w1 w') (by kernel_rfl) ?_ (fun hHeld => ?_)
      · exact (Below.refl _ _).drew
      refine tkW (v := ?_) 0 rfl (by kernel_rfl) (by kernel_rfl) (by kernel_rfl) (fun _ _ _ h => h) (by rfl) (by assumption) ?_ ?_
      rotate_left
      · intro w' hSw; (try dsimp only at hSw); have kg0 : w'.cell? ⟨w.heap.size, 0, none⟩ = some (.slice aS ns cS) := (hSw.cell (p := ⟨w.heap.size, 0, none⟩) (by first | exact lt_g0 | omega)).trans g0; have kg1 : w'.cell? ⟨w.heap.size, 1, none⟩ = some (.slice ap np cp) := (hSw.cell (p := ⟨w.heap.size, 1, none⟩) (by first | exact lt_g1 | omega)).trans g1; have kg2 : w'.cell? ⟨w.heap.size + 1, 0, none⟩ = some (.slice ax nx cx) := (hSw.cell (p := ⟨w.heap.size + 1, 0, none⟩) (by first | exact lt_g2 | omega)).trans g2; have kg3 : w'.cell? ⟨w.heap.size + 1, 1, none⟩ = some (.slice aT nt cT) := (hSw.cell (p := ⟨w.heap.size + 1, 1, none⟩) (by first | exact lt_g3 | omega)).trans g3; clear hSw; go_simp; (try with_reducible rfl)
      (try simp only [Act.put, List.setIfInBounds_toArray, List.set_cons_zero, List.set_cons_succ])
      refine tkC 1 rfl (by kernel_rfl) (by rfl) (fun K hK => ?_)
      go_simp
      (go_at_call 29; refine (HFew.out _ (Hb1.out.trans (hHeld.mono (by omega)))).mono ?_; rintro e w2 ⟨rfl, hb2⟩; have hN := hHeld.trans (hb2.mono (by have := hHeld.size; omega)))
      (try dsimp only)
      refine hK.out _ _ ?_ (fun hHeld => ?_)
      · exact hN
      clear hK K
      (try simp only [Act.put, List.setIfInBounds_toArray, List.set_cons_zero, List.set_cons_succ])
      refine tkW (v := ?_) 2 rfl (by kernel_rfl) (by kernel_rfl) (by kernel_rfl) (fun _ _ _ h => h) (by rfl) (by assumption) ?_ ?_
      rotate_left
      · intro w' hSw; clear hSw; go_simp; (try with_reducible rfl)
      (try simp only [Act.put, List.setIfInBounds_toArray, List.set_cons_zero, List.set_cons_succ])
      refine tkW (v := ?_) 3 rfl (by kernel_rfl) (by kernel_rfl) (by kernel_rfl) (fun _ _ _ h => h) (by rfl) (by assumption) ?_ ?_
      rotate_left
      · intro w' hSw; clear hSw; go_simp; (try with_reducible rfl)
      (try simp only [Act.put, List.setIfInBounds_toArray, List.set_cons_zero, List.set_cons_succ])
      refine tkW (v := ?_) 4 rfl (by kernel_rfl) (by kernel_rfl) (by kernel_rfl) (fun _ _ _ h => h) (by rfl) (by assumption) ?_ ?_
      rotate_left
      · intro w' hSw; clear hSw; go_simp; (try with_reducible rfl)
      (try simp only [Act.put, List.setIfInBounds_toArray, List.set_cons_zero, List.set_cons_succ])
      refine tkW (v := ?_) 5 rfl (by kernel_rfl) (by kernel_rfl) (by kernel_rfl) (fun _ _ _ h => h) (by rfl) (by assumption) ?_ ?_
      rotate_left
      · intro w' hSw; (try dsimp only at hSw); have kg0 : w'.cell? ⟨w.heap.size, 0, none⟩ = some (.slice aS ns cS) := (hSw.cell (p := ⟨w.heap.size, 0, none⟩) (by first | exact lt_g0 | omega)).trans g0; have kg1 : w'.cell? ⟨w.heap.size, 1, none⟩ = some (.slice ap np cp) := (hSw.cell (p := ⟨w.heap.size, 1, none⟩) (by first | exact lt_g1 | omega)).trans g1; have kg2 : w'.cell? ⟨w.heap.size + 1, 0, none⟩ = some (.slice ax nx cx) := (hSw.cell (p := ⟨w.heap.size + 1, 0, none⟩) (by first | exact lt_g2 | omega)).trans g2; have kg3 : w'.cell? ⟨w.heap.size + 1, 1, none⟩ = some (.slice aT nt cT) := (hSw.cell (p := ⟨w.heap.size + 1, 1, none⟩) (by first | exact lt_g3 | omega)).trans g3; clear hSw; go_simp; (try with_reducible rfl)
      (try simp only [Act.put, List.setIfInBounds_toArray, List.set_cons_zero, List.set_cons_succ])
      refine tkW (v := ?_) 6 rfl (by kernel_rfl) (by kernel_rfl) (by kernel_rfl) (fun _ _ _ h => h) (by rfl) (by assumption) ?_ ?_
      rotate_left
      · intro w' hSw; clear hSw; go_simp; (try with_reducible rfl)
      (try simp only [Act.put, List.setIfInBounds_toArray, List.set_cons_zero, List.set_cons_succ])
      refine tkW (v := ?_) 7 rfl (by kernel_rfl) (by kernel_rfl) (by kernel_rfl) (fun _ _ _ h => h) (by rfl) (by assumption) ?_ ?_
      rotate_left
      · intro w' hSw; (try dsimp only at hSw); have kg0 : w'.cell? ⟨w.heap.size, 0, none⟩ = some (.slice aS ns cS) := (hSw.cell (p := ⟨w.heap.size, 0, none⟩) (by first | exact lt_g0 | omega)).trans g0; have kg1 : w'.cell? ⟨w.heap.size, 1, none⟩ = some (.slice ap np cp) := (hSw.cell (p := ⟨w.heap.size, 1, none⟩) (by first | exact lt_g1 | omega)).trans g1; have kg2 : w'.cell? ⟨w.heap.size + 1, 0, none⟩ = some (.slice ax nx cx) := (hSw.cell (p := ⟨w.heap.size + 1, 0, none⟩) (by first | exact lt_g2 | omega)).trans g2; have kg3 : w'.cell? ⟨w.heap.size + 1, 1, none⟩ = some (.slice aT nt cT) := (hSw.cell (p := ⟨w.heap.size + 1, 1, none⟩) (by first | exact lt_g3 | omega)).trans g3; clear hSw; go_simp; (try with_reducible rfl)
      (try simp only [Act.put, List.setIfInBounds_toArray, List.set_cons_zero, List.set_cons_succ])
      refine tkC 8 rfl (by kernel_rfl) (by rfl) (fun K hK => ?_)
      go_simp
      refine hK.out _ _ ?_ (fun hHeld => ?_)
      · exact hHeld.alloc (by have := hHeld.size; omega) _
      clear hK K
      (try simp only [Act.put, List.setIfInBounds_toArray, List.set_cons_zero, List.set_cons_succ])
      refine tkC 9 rfl (by kernel_rfl) (by rfl) (fun K hK => ?_)
      go_simp
      (go_at_call 30; refine (HSh.out _ _ (World.cell?_alloc_at _ _ _ _ rfl) (World.cell?_alloc_at _ _ _ _ rfl)).mono ?_; rintro e w3 ⟨rfl, rfl⟩; have hN := hHeld)
      (try dsimp only)
      refine hK.out _ _ ?_ (fun hHeld => ?_)
      · exact hN
      clear hK K
      (try simp only [Act.put, List.setIfInBounds_toArray, List.set_cons_zero, List.set_cons_succ])
      refine tkW (v := ?_) 10 rfl (by kernel_rfl) (by kernel_rfl) (by kernel_rfl) (fun _ _ _ h => h) (by rfl) (by assumption) ?_ ?_
      rotate_left
      · intro w' hSw; clear hSw; go_simp; (try with_reducible rfl)
      (try simp only [Act.put, List.setIfInBounds_toArray, List.set_cons_zero, List.set_cons_succ])
      refine tkW (v := ?_) 11 rfl (by kernel_rfl) (by kernel_rfl) (by kernel_rfl) (fun _ _ _ h => h) (by rfl) (by assumption) ?_ ?_
      rotate_left
      · intro w' hSw; clear hSw; go_simp; (try with_reducible rfl)
      (try simp only [Act.put, List.setIfInBounds_toArray, List.set_cons_zero, List.set_cons_succ])
      refine tkW (v := ?_) 12 rfl (by kernel_rfl) (by kernel_rfl) (by kernel_rfl) (fun _ _ _ h => h) (by rfl) (by assumption) ?_ ?_
      rotate_left
      · intro w' hSw; clear hSw; go_simp; (try with_reducible rfl)
      (try simp only [Act.put, List.setIfInBounds_toArray, List.set_cons_zero, List.set_cons_succ])
      refine tkU 13 rfl (by kernel_rfl) (by kernel_rfl) (by kernel_rfl) (fun _ _ _ h => h) (by rfl) (by assumption) ?_
      (try simp only [Act.put, List.setIfInBounds_toArray, List.set_cons_zero, List.set_cons_succ])
      refine tkU 14 rfl (by kernel_rfl) (by kernel_rfl) (by kernel_rfl) (fun _ _ _ h => h) (by rfl) (by assumption) ?_
      (try simp only [Act.put, List.setIfInBounds_toArray, List.set_cons_zero, List.set_cons_succ])
      refine tkU 15 rfl (by kernel_rfl) (by kernel_rfl) (by kernel_rfl) (fun _ _ _ h => h) (by rfl) (by assumption) ?_
      (try simp only [Act.put, List.setIfInBounds_toArray, List.set_cons_zero, List.set_cons_succ])
      refine tkW (v := ?_) 16 rfl (by kernel_rfl) (by kernel_rfl) (by kernel_rfl) (fun _ _ _ h => h) (by rfl) (by assumption) ?_ ?_
      rotate_left
      · intro w' hSw; clear hSw; go_simp; (try with_reducible rfl)
      (try simp only [Act.put, List.setIfInBounds_toArray, List.set_cons_zero, List.set_cons_succ])
      refine tkW (v := ?_) 17 rfl (by kernel_rfl) (by kernel_rfl) (by kernel_rfl) (fun _ _ _ h => h) (by rfl) (by assumption) ?_ ?_
      rotate_left
      · intro w' hSw; clear hSw; go_simp; (try with_reducible rfl)
      (try simp only [Act.put, List.setIfInBounds_toArray, List.set_cons_zero, List.set_cons_succ])
      refine tkU 18 rfl (by kernel_rfl) (by kernel_rfl) (by kernel_rfl) (fun _ _ _ h => h) (by rfl) (by assumption) ?_
      (try simp only [Act.put, List.setIfInBounds_toArray, List.set_cons_zero, List.set_cons_succ])
      refine tkU 19 rfl (by kernel_rfl) (by kernel_rfl) (by kernel_rfl) (fun _ _ _ h => h) (by rfl) (by assumption) ?_
      (try simp only [Act.put, List.setIfInBounds_toArray, List.set_cons_zero, List.set_cons_succ])
      refine tkU 20 rfl (by kernel_rfl) (by kernel_rfl) (by kernel_rfl) (fun _ _ _ h => h) (by rfl) (by assumption) ?_
      (try simp only [Act.put, List.setIfInBounds_toArray, List.set_cons_zero, List.set_cons_succ])
      refine tkU 21 rfl (by kernel_rfl) (by kernel_rfl) (by kernel_rfl) (fun _ _ _ h => h) (by rfl) (by assumption) ?_
      (try simp only [Act.put, List.setIfInBounds_toArray, List.set_cons_zero, List.set_cons_succ])
      refine tkW (v := ?_) 22 rfl (by kernel_rfl) (by kernel_rfl) (by kernel_rfl) (fun _ _ _ h => h) (by rfl) (by assumption) ?_ ?_
      rotate_left
      · intro w' hSw; clear hSw; go_simp; (try with_reducible rfl)
      (try simp only [Act.put, List.setIfInBounds_toArray, List.set_cons_zero, List.set_cons_succ])
      refine tkW (v := ?_) 23 rfl (by kernel_rfl) (by kernel_rfl) (by kernel_rfl) (fun _ _ _ h => h) (by rfl) (by assumption) ?_ ?_
      rotate_left
      · intro w' hSw; clear hSw; go_simp; (try with_reducible rfl)
      (try simp only [Act.put, List.setIfInBounds_toArray, List.set_cons_zero, List.set_cons_succ])
      refine tkU 24 rfl (by kernel_rfl) (by kernel_rfl) (by kernel_rfl) (fun _ _ _ h => h) (by rfl) (by assumption) ?_
      (try simp only [Act.put, List.setIfInBounds_toArray, List.set_cons_zero, List.set_cons_succ])
      refine tkU 25 rfl (by kernel_rfl) (by kernel_rfl) (by kernel_rfl) (fun _ _ _ h => h) (by rfl) (by assumption) ?_
      (try simp only [Act.put, List.setIfInBounds_toArray, List.set_cons_zero, List.set_cons_succ])
      refine tkU 26 rfl (by kernel_rfl) (by kernel_rfl) (by kernel_rfl) (fun _ _ _ h => h) (by rfl) (by assumption) ?_
      (try simp only [Act.put, List.setIfInBounds_toArray, List.set_cons_zero, List.set_cons_succ])
      refine tkU 27 rfl (by kernel_rfl) (by kernel_rfl) (by kernel_rfl) (fun _ _ _ h => h) (by rfl) (by assumption) ?_
      (try simp only [Act.put, List.setIfInBounds_toArray, List.set_cons_zero, List.set_cons_succ])
      refine tkU 28 rfl (by kernel_rfl) (by kernel_rfl) (by kernel_rfl) (fun _ _ _ h => h) (by rfl) (by assumption) ?_
      (try simp only [Act.put, List.setIfInBounds_toArray, List.set_cons_zero, List.set_cons_succ])
      refine tkU 29 rfl (by kernel_rfl) (by kernel_rfl) (by kernel_rfl) (fun _ _ _ h => h) (by rfl) (by assumption) ?_
      (try simp only [Act.put, List.setIfInBounds_toArray, List.set_cons_zero, List.set_cons_succ])
      refine tkU 30 rfl (by kernel_rfl) (by kernel_rfl) (by kernel_rfl) (fun _ _ _ h => h) (by rfl) (by assumption) ?_
      (try simp only [Act.put, List.setIfInBounds_toArray, List.set_cons_zero, List.set_cons_succ])
      refine tkU 31 rfl (by kernel_rfl) (by kernel_rfl) (by kernel_rfl) (fun _ _ _ h => h) (by rfl) (by assumption) ?_
      (try simp only [Act.put, List.setIfInBounds_toArray, List.set_cons_zero, List.set_cons_succ])
      refine tkW (v := ?_) 32 rfl (by kernel_rfl) (by kernel_rfl) (by kernel_rfl) (fun _ _ _ h => h) (by rfl) (by assumption) ?_ ?_
      rotate_left
      · intro w' hSw; clear hSw; go_simp; (try with_reducible rfl)
      (try simp only [Act.put, List.setIfInBounds_toArray, List.set_cons_zero, List.set_cons_succ])
      refine tkW (v := ?_) 33 rfl (by kernel_rfl) (by kernel_rfl) (by kernel_rfl) (fun _ _ _ h => h) (by rfl) (by assumption) ?_ ?_
      rotate_left
      · intro w' hSw; clear hSw; go_simp; (try with_reducible rfl)
      (try simp only [Act.put, List.setIfInBounds_toArray, List.set_cons_zero, List.set_cons_succ])
      refine tkU 34 rfl (by kernel_rfl) (by kernel_rfl) (by kernel_rfl) (fun _ _ _ h => h) (by rfl) (by assumption) ?_
      (try simp only [Act.put, List.setIfInBounds_toArray, List.set_cons_zero, List.set_cons_succ])
      refine tkU 35 rfl (by kernel_rfl) (by kernel_rfl) (by kernel_rfl) (fun _ _ _ h => h) (by rfl) (by assumption) ?_
      (try simp only [Act.put, List.setIfInBounds_toArray, List.set_cons_zero, List.set_cons_succ])
      refine tkU 36 rfl (by kernel_rfl) (by kernel_rfl) (by kernel_rfl) (fun _ _ _ h => h) (by rfl) (by assumption) ?_
      (try simp only [Act.put, List.setIfInBounds_toArray, List.set_cons_zero, List.set_cons_succ])
      refine tkU 37 rfl (by kernel_rfl) (by kernel_rfl) (by kernel_rfl) (fun _ _ _ h => h) (by rfl) (by assumption) ?_
      (try simp only [Act.put, List.setIfInBounds_toArray, List.set_cons_zero, List.set_cons_succ])
      refine tkU 38 rfl (by kernel_rfl) (by kernel_rfl) (by kernel_rfl) (fun _ _ _ h => h) (by rfl) (by assumption) ?_
      (try simp only [Act.put, List.setIfInBounds_toArray, List.set_cons_zero, List.set_cons_succ])
      refine tkU 39 rfl (by kernel_rfl) (by kernel_rfl) (by kernel_rfl) (fun _ _ _ h => h) (by rfl) (by assumption) ?_
      (try simp only [Act.put, List.setIfInBounds_toArray, List.set_cons_zero, List.set_cons_succ])
      refine tkU 40 rfl (by kernel_rfl) (by kernel_rfl) (by kernel_rfl) (fun _ _ _ h => h) (by rfl) (by assumption) ?_
      (try simp only [Act.put, List.setIfInBounds_toArray, List.set_cons_zero, List.set_cons_succ])
      refine tkU 41 rfl (by kernel_rfl) (by kernel_rfl) (by kernel_rfl) (fun _ _ _ h => h) (by rfl) (by assumption) ?_
      (try simp only [Act.put, List.setIfInBounds_toArray, List.set_cons_zero, List.set_cons_succ])
      refine tkW (v := ?_) 42 rfl (by kernel_rfl) (by kernel_rfl) (by kernel_rfl) (fun _ _ _ h => h) (by rfl) (by assumption) ?_ ?_
      rotate_left
      · intro w' hSw; clear hSw; go_simp; (try with_reducible rfl)
      (try simp only [Act.put, List.setIfInBounds_toArray, List.set_cons_zero, List.set_cons_succ])
      refine wpAnyH_done (by kernel_rfl) ?_ _
      go_wp2
      go_ret
      exact ⟨rfl, Hb1.out.trans (hHeld.mono (by omega))⟩
  · rw [show fewB s ns np = false by simpa using hfew] at HFew
    clear hS hP hX hT hfew
    go_enter Try.func8, Try.ntmps8
    go_wp2_with fail
    ((with_reducible refine (HAw.out _).mono ?_); rintro e w1 ⟨rfl, hb1⟩)
    obtain ⟨hc1, hf1⟩ := bcell hb1
    have hz1 := hb1.size
    simp at hz1 hc1 hf1
    have g0 : w1.cell? ⟨w.heap.size, 0, none⟩ = some (.slice aS ns cS) := by rw [hc1 _ _ (by omega)]; go_simp
    have g1 : w1.cell? ⟨w.heap.size, 1, none⟩ = some (.slice ap np cp) := by rw [hc1 _ _ (by omega)]; go_simp
    have g2 : w1.cell? ⟨w.heap.size + 1, 0, none⟩ = some (.slice ax nx cx) := by rw [hc1 _ _ (by omega)]; go_simp
    have g3 : w1.cell? ⟨w.heap.size + 1, 1, none⟩ = some (.slice aT nt cT) := by rw [hc1 _ _ (by omega)]; go_simp
    have lt1 : w.heap.size + 1 < w1.heap.size := by omega
    have lt_g0 : w.heap.size < w1.heap.size := by omega
    have lt_g1 := lt_g0
    have lt_g2 := lt1
    have lt_g3 := lt1
    have Hb1 : Hid (Below w.heap.size w w1) := Lib.hid (by (repeat first | assumption | exact Below.refl _ _ | refine Below.drew ?_ | refine Below.drewN ?_ _ | refine Below.alloc ?_ (by (first | omega | (simp; done) | (simp; omega))) _ | refine Below.setCell ?_ (by (first | omega | (simp; done) | (simp; omega))) _ | refine Below.trans ?_ (Below.mono (by assumption) (by (first | omega | (simp; done) | (simp; omega))))))
    clear hb1 hc1 hf1 HAw
    go_wp2_with fail
    refine wp_region_held_drew (S := fun w' => Below w1.heap.size w1 w') (by kernel_rfl) ?_ (fun hHeld => ?_)
    · exact (Below.refl _ _).drew
    refine tkW (v := ?_) 0 rfl (by kernel_rfl) (by kernel_rfl) (by kernel_rfl) (fun _ _ _ h => h) (by rfl) (by assumption) ?_ ?_
    rotate_left
    · intro w' hSw; (try dsimp only at hSw); have kg0 : w'.cell? ⟨w.heap.size, 0, none⟩ = some (.slice aS ns cS) := (hSw.cell (p := ⟨w.heap.size, 0, none⟩) (by first | exact lt_g0 | omega)).trans g0; have kg1 : w'.cell? ⟨w.heap.size, 1, none⟩ = some (.slice ap np cp) := (hSw.cell (p := ⟨w.heap.size, 1, none⟩) (by first | exact lt_g1 | omega)).trans g1; have kg2 : w'.cell? ⟨w.heap.size + 1, 0, none⟩ = some (.slice ax nx cx) := (hSw.cell (p := ⟨w.heap.size + 1, 0, none⟩) (by first | exact lt_g2 | omega)).trans g2; have kg3 : w'.cell? ⟨w.heap.size + 1, 1, none⟩ = some (.slice aT nt cT) := (hSw.cell (p := ⟨w.heap.size + 1, 1, none⟩) (by first | exact lt_g3 | omega)).trans g3; clear hSw; go_simp; (try with_reducible rfl)
    (try simp only [Act.put, List.setIfInBounds_toArray, List.set_cons_zero, List.set_cons_succ])
    refine tkC 1 rfl (by kernel_rfl) (by rfl) (fun K hK => ?_)
    go_simp
    (go_at_call 29; refine (HFew.out _ (Hb1.out.trans (hHeld.mono (by omega)))).mono ?_; rintro e w2 ⟨rfl, hb2⟩; have hN := hHeld.trans (hb2.mono (by have := hHeld.size; omega)))
    (try dsimp only)
    refine hK.out _ _ ?_ (fun hHeld => ?_)
    · exact hN
    clear hK K
    (try simp only [Act.put, List.setIfInBounds_toArray, List.set_cons_zero, List.set_cons_succ])
    refine tkW (v := ?_) 2 rfl (by kernel_rfl) (by kernel_rfl) (by kernel_rfl) (fun _ _ _ h => h) (by rfl) (by assumption) ?_ ?_
    rotate_left
    · intro w' hSw; clear hSw; go_simp; (try with_reducible rfl)
    (try simp only [Act.put, List.setIfInBounds_toArray, List.set_cons_zero, List.set_cons_succ])
    refine tkW (v := ?_) 3 rfl (by kernel_rfl) (by kernel_rfl) (by kernel_rfl) (fun _ _ _ h => h) (by rfl) (by assumption) ?_ ?_
    rotate_left
    · intro w' hSw; clear hSw; go_simp; (try with_reducible rfl)
    (try simp only [Act.put, List.setIfInBounds_toArray, List.set_cons_zero, List.set_cons_succ])
    refine tkU 4 rfl (by kernel_rfl) (by kernel_rfl) (by kernel_rfl) (fun _ _ _ h => h) (by rfl) (by assumption) ?_
    (try simp only [Act.put, List.setIfInBounds_toArray, List.set_cons_zero, List.set_cons_succ])
    refine tkU 5 rfl (by kernel_rfl) (by kernel_rfl) (by kernel_rfl) (fun _ _ _ h => h) (by rfl) (by assumption) ?_
    (try simp only [Act.put, List.setIfInBounds_toArray, List.set_cons_zero, List.set_cons_succ])
    refine tkU 6 rfl (by kernel_rfl) (by kernel_rfl) (by kernel_rfl) (fun _ _ _ h => h) (by rfl) (by assumption) ?_
    (try simp only [Act.put, List.setIfInBounds_toArray, List.set_cons_zero, List.set_cons_succ])
    refine tkU 7 rfl (by kernel_rfl) (by kernel_rfl) (by kernel_rfl) (fun _ _ _ h => h) (by rfl) (by assumption) ?_
    (try simp only [Act.put, List.setIfInBounds_toArray, List.set_cons_zero, List.set_cons_succ])
    refine tkU 8 rfl (by kernel_rfl) (by kernel_rfl) (by kernel_rfl) (fun _ _ _ h => h) (by rfl) (by assumption) ?_
    (try simp only [Act.put, List.setIfInBounds_toArray, List.set_cons_zero, List.set_cons_succ])
    refine tkU 9 rfl (by kernel_rfl) (by kernel_rfl) (by kernel_rfl) (fun _ _ _ h => h) (by rfl) (by assumption) ?_
    (try simp only [Act.put, List.setIfInBounds_toArray, List.set_cons_zero, List.set_cons_succ])
    refine tkU 10 rfl (by kernel_rfl) (by kernel_rfl) (by kernel_rfl) (fun _ _ _ h => h) (by rfl) (by assumption) ?_
    (try simp only [Act.put, List.setIfInBounds_toArray, List.set_cons_zero, List.set_cons_succ])
    refine tkW (v := ?_) 11 rfl (by kernel_rfl) (by kernel_rfl) (by kernel_rfl) (fun _ _ _ h => h) (by rfl) (by assumption) ?_ ?_
    rotate_left
    · intro w' hSw; clear hSw; go_simp; (try with_reducible rfl)
    (try simp only [Act.put, List.setIfInBounds_toArray, List.set_cons_zero, List.set_cons_succ])
    refine tkW (v := ?_) 12 rfl (by kernel_rfl) (by kernel_rfl) (by kernel_rfl) (fun _ _ _ h => h) (by rfl) (by assumption) ?_ ?_
    rotate_left
    · intro w' hSw; clear hSw; go_simp; (try with_reducible rfl)
    (try simp only [Act.put, List.setIfInBounds_toArray, List.set_cons_zero, List.set_cons_succ])
    refine tkU 13 rfl (by kernel_rfl) (by kernel_rfl) (by kernel_rfl) (fun _ _ _ h => h) (by rfl) (by assumption) ?_
    (try simp only [Act.put, List.setIfInBounds_toArray, List.set_cons_zero, List.set_cons_succ])
    refine tkU 14 rfl (by kernel_rfl) (by kernel_rfl) (by kernel_rfl) (fun _ _ _ h => h) (by rfl) (by assumption) ?_
    (try simp only [Act.put, List.setIfInBounds_toArray, List.set_cons_zero, List.set_cons_succ])
    refine tkU 15 rfl (by kernel_rfl) (by kernel_rfl) (by kernel_rfl) (fun _ _ _ h => h) (by rfl) (by assumption) ?_
    (try simp only [Act.put, List.setIfInBounds_toArray, List.set_cons_zero, List.set_cons_succ])
    refine tkW (v := ?_) 16 rfl (by kernel_rfl) (by kernel_rfl) (by kernel_rfl) (fun _ _ _ h => h) (by rfl) (by assumption) ?_ ?_
    rotate_left
    · intro w' hSw; clear hSw; go_simp; (try with_reducible rfl)
    (try simp only [Act.put, List.setIfInBounds_toArray, List.set_cons_zero, List.set_cons_succ])
    refine tkW (v := ?_) 17 rfl (by kernel_rfl) (by kernel_rfl) (by kernel_rfl) (fun _ _ _ h => h) (by rfl) (by assumption) ?_ ?_
    rotate_left
    · intro w' hSw; clear hSw; go_simp; (try with_reducible rfl)
    (try simp only [Act.put, List.setIfInBounds_toArray, List.set_cons_zero, List.set_cons_succ])
    refine tkU 18 rfl (by kernel_rfl) (by kernel_rfl) (by kernel_rfl) (fun _ _ _ h => h) (by rfl) (by assumption) ?_
    (try simp only [Act.put, List.setIfInBounds_toArray, List.set_cons_zero, List.set_cons_succ])
    refine tkU 19 rfl (by kernel_rfl) (by kernel_rfl) (by kernel_rfl) (fun _ _ _ h => h) (by rfl) (by assumption) ?_
    (try simp only [Act.put, List.setIfInBounds_toArray, List.set_cons_zero, List.set_cons_succ])
    refine tkU 20 rfl (by kernel_rfl) (by kernel_rfl) (by kernel_rfl) (fun _ _ _ h => h) (by rfl) (by assumption) ?_
    (try simp only [Act.put, List.setIfInBounds_toArray, List.set_cons_zero, List.set_cons_succ])
    refine tkU 21 rfl (by kernel_rfl) (by kernel_rfl) (by kernel_rfl) (fun _ _ _ h => h) (by rfl) (by assumption) ?_
    (try simp only [Act.put, List.setIfInBounds_toArray, List.set_cons_zero, List.set_cons_succ])
    refine tkW (v := ?_) 22 rfl (by kernel_rfl) (by kernel_rfl) (by kernel_rfl) (fun _ _ _ h => h) (by rfl) (by assumption) ?_ ?_
    rotate_left
    · intro w' hSw; clear hSw; go_simp; (try with_reducible rfl)
    (try simp only [Act.put, List.setIfInBounds_toArray, List.set_cons_zero, List.set_cons_succ])
    refine tkW (v := ?_) 23 rfl (by kernel_rfl) (by kernel_rfl) (by kernel_rfl) (fun _ _ _ h => h) (by rfl) (by assumption) ?_ ?_
    rotate_left
    · intro w' hSw; clear hSw; go_simp; (try with_reducible rfl)
    (try simp only [Act.put, List.setIfInBounds_toArray, List.set_cons_zero, List.set_cons_succ])
    refine tkU 24 rfl (by kernel_rfl) (by kernel_rfl) (by kernel_rfl) (fun _ _ _ h => h) (by rfl) (by assumption) ?_
    (try simp only [Act.put, List.setIfInBounds_toArray, List.set_cons_zero, List.set_cons_succ])
    refine tkU 25 rfl (by kernel_rfl) (by kernel_rfl) (by kernel_rfl) (fun _ _ _ h => h) (by rfl) (by assumption) ?_
    (try simp only [Act.put, List.setIfInBounds_toArray, List.set_cons_zero, List.set_cons_succ])
    refine tkU 26 rfl (by kernel_rfl) (by kernel_rfl) (by kernel_rfl) (fun _ _ _ h => h) (by rfl) (by assumption) ?_
    (try simp only [Act.put, List.setIfInBounds_toArray, List.set_cons_zero, List.set_cons_succ])
    refine tkU 27 rfl (by kernel_rfl) (by kernel_rfl) (by kernel_rfl) (fun _ _ _ h => h) (by rfl) (by assumption) ?_
    (try simp only [Act.put, List.setIfInBounds_toArray, List.set_cons_zero, List.set_cons_succ])
    refine tkU 28 rfl (by kernel_rfl) (by kernel_rfl) (by kernel_rfl) (fun _ _ _ h => h) (by rfl) (by assumption) ?_
    (try simp only [Act.put, List.setIfInBounds_toArray, List.set_cons_zero, List.set_cons_succ])
    refine tkU 29 rfl (by kernel_rfl) (by kernel_rfl) (by kernel_rfl) (fun _ _ _ h => h) (by rfl) (by assumption) ?_
    (try simp only [Act.put, List.setIfInBounds_toArray, List.set_cons_zero, List.set_cons_succ])
    refine tkU 30 rfl (by kernel_rfl) (by kernel_rfl) (by kernel_rfl) (fun _ _ _ h => h) (by rfl) (by assumption) ?_
    (try simp only [Act.put, List.setIfInBounds_toArray, List.set_cons_zero, List.set_cons_succ])
    refine tkU 31 rfl (by kernel_rfl) (by kernel_rfl) (by kernel_rfl) (fun _ _ _ h => h) (by rfl) (by assumption) ?_
    (try simp only [Act.put, List.setIfInBounds_toArray, List.set_cons_zero, List.set_cons_succ])
    refine tkW (v := ?_) 32 rfl (by kernel_rfl) (by kernel_rfl) (by kernel_rfl) (fun _ _ _ h => h) (by rfl) (by assumption) ?_ ?_
    rotate_left
    · intro w' hSw; clear hSw; go_simp; (try with_reducible rfl)
    (try simp only [Act.put, List.setIfInBounds_toArray, List.set_cons_zero, List.set_cons_succ])
    refine tkW (v := ?_) 33 rfl (by kernel_rfl) (by kernel_rfl) (by kernel_rfl) (fun _ _ _ h => h) (by rfl) (by assumption) ?_ ?_
    rotate_left
    · intro w' hSw; clear hSw; go_simp; (try with_reducible rfl)
    (try simp only [Act.put, List.setIfInBounds_toArray, List.set_cons_zero, List.set_cons_succ])
    refine tkU 34 rfl (by kernel_rfl) (by kernel_rfl) (by kernel_rfl) (fun _ _ _ h => h) (by rfl) (by assumption) ?_
    (try simp only [Act.put, List.setIfInBounds_toArray, List.set_cons_zero, List.set_cons_succ])
    refine tkU 35 rfl (by kernel_rfl) (by kernel_rfl) (by kernel_rfl) (fun _ _ _ h => h) (by rfl) (by assumption) ?_
    (try simp only [Act.put, List.setIfInBounds_toArray, List.set_cons_zero, List.set_cons_succ])
    refine tkU 36 rfl (by kernel_rfl) (by kernel_rfl) (by kernel_rfl) (fun _ _ _ h => h) (by rfl) (by assumption) ?_
    (try simp only [Act.put, List.setIfInBounds_toArray, List.set_cons_zero, List.set_cons_succ])
    refine tkU 37 rfl (by kernel_rfl) (by kernel_rfl) (by kernel_rfl) (fun _ _ _ h => h) (by rfl) (by assumption) ?_
    (try simp only [Act.put, List.setIfInBounds_toArray, List.set_cons_zero, List.set_cons_succ])
    refine tkU 38 rfl (by kernel_rfl) (by kernel_rfl) (by kernel_rfl) (fun _ _ _ h => h) (by rfl) (by assumption) ?_
    (try simp only [Act.put, List.setIfInBounds_toArray, List.set_cons_zero, List.set_cons_succ])
    refine tkU 39 rfl (by kernel_rfl) (by kernel_rfl) (by kernel_rfl) (fun _ _ _ h => h) (by rfl) (by assumption) ?_
    (try simp only [Act.put, List.setIfInBounds_toArray, List.set_cons_zero, List.set_cons_succ])
    refine tkU 40 rfl (by kernel_rfl) (by kernel_rfl) (by kernel_rfl) (fun _ _ _ h => h) (by rfl) (by assumption) ?_
    (try simp only [Act.put, List.setIfInBounds_toArray, List.set_cons_zero, List.set_cons_succ])
    refine tkU 41 rfl (by kernel_rfl) (by kernel_rfl) (by kernel_rfl) (fun _ _ _ h => h) (by rfl) (by assumption) ?_
    (try simp only [Act.put, List.setIfInBounds_toArray, List.set_cons_zero, List.set_cons_succ])
    refine tkW (v := ?_) 42 rfl (by kernel_rfl) (by kernel_rfl) (by kernel_rfl) (fun _ _ _ h => h) (by rfl) (by assumption) ?_ ?_
    rotate_left
    · intro w' hSw; clear hSw; go_simp; (try with_reducible rfl)
    (try simp only [Act.put, List.setIfInBounds_toArray, List.set_cons_zero, List.set_cons_succ])
    refine wpAnyH_done (by kernel_rfl) ?_ _
    go_wp2
    go_ret
    exact ⟨rfl, Hb1.out.trans (hHeld.mono (by omega))⟩
end Go.Proofs.Ytdamenbpgkhiiaa
