/-
  The walk of regattalaw07.MlpCounts.
-/
import Derived.Test.YtdamenbpgkhiiaaLawD
namespace Go.Proofs.Ytdamenbpgkhiiaa
open Go.RowKit
set_option linter.unusedVariables false
set_option linter.unusedSimpArgs false

theorem own_cells {w : World} {B size n : Nat} {E : TypeId} {v : Value} {xs : List Value} (h : w.ownsRow B E size v n xs) (hn : 0 < n) : ∃ g c, v = .slice (some ⟨g, 0, none⟩) n c ∧ g < w.heap.size ∧ ∀ j u, xs[j]? = some u → w.cell? ⟨g, j, none⟩ = some u := by
  rcases h.2 with ⟨e, e2⟩ | ⟨g, cap, cur, rfl, hb, hg, hc, hmx, hsz, ht⟩
  · omega
  · refine ⟨g, cap, rfl, lt_of_block hg, fun j u hj => ?_⟩
    have := World.ownsRow.cells h (g := g) rfl j u hj
    rw [← this]
    simp only [Addr.add, Nat.zero_add]
    split <;> simp_all

theorem lA_at {s p : List Int} {l j : Nat} (hj : j < szN s (l + 1) * szN s l) : (lA s p l)[j]?.getD 0 = p[fst s l + j]?.getD 0 := by
  unfold lA
  rw [List.getElem?_drop, List.getElem?_take, if_pos (by omega)]
theorem lB_at {s p : List Int} {l j : Nat} (hj : j < szN s (l + 1)) : (lB s p l)[j]?.getD 0 = p[fst s l + szN s (l + 1) * szN s l + j]?.getD 0 := by
  unfold lB
  rw [List.getElem?_drop, List.getElem?_take, if_pos (by omega)]
theorem lA_len {s p : List Int} {l : Nat} (h : fst s (l + 1) ≤ p.length) : (lA s p l).length = szN s (l + 1) * szN s l := by
  rw [fst_succ] at h
  unfold lA
  rw [List.length_drop, List.length_take]; omega
theorem lB_len {s p : List Int} {l : Nat} (h : fst s (l + 1) ≤ p.length) : (lB s p l).length = szN s (l + 1) := by
  rw [fst_succ] at h
  unfold lB
  rw [List.length_drop, List.length_take]; omega

set_option maxHeartbeats 800000 in
theorem Split_bad (aS : Option Addr) (ns cS : Nat) (s : List Int) (ap : Option Addr) (np cp : Nat) (w : World) (e : Int) (hs : Rd w .i64 aS ns s) (hm : np ≤ 140737488351232) (he : shp s np = e) (h0 : e ≠ 0) :
    Calls Try.prog 36 #[.slice aS ns cS, .slice ap np cp] w fun r w' => r = .returned (.tuple #[.slice none 0 0, .slice none 0 0, .int .i64 e]) ∧ w = w' := by
  have HSh := Lib.hid (shaped_any aS ns cS s ap np cp w hs hm)
  rw [he] at HSh
  have hne : (e == 0) = false := by simpa using h0
  have hne2 : (e != 0) = true := by simpa using h0
  clear hs he h0
  go_enter Try.func36, Try.ntmps36
  go_wp2_with first
    | ((with_reducible refine (HSh.out).mono ?_); rintro r w1 ⟨rfl, rfl⟩)
    | fail
  go_ret3
  exact ⟨rfl, rfl⟩

set_option maxHeartbeats 8000000 in
set_option maxRecDepth 100000 in
theorem counts_walk (aS : Option Addr) (ns cS : Nat) (s : List Int) (ap : Option Addr) (np cp : Nat) (p : List Int) (w : World) (hS : InRow w aS ns cS s) (hP : InRow w ap np cp p) :
    Calls Try.prog 9 #[.agg #[.slice aS ns cS, .slice ap np cp]] w fun e w' => e = .returned (.bool true) ∧ Below w.heap.size w w' := by
  have hnsm : ns ≤ 9223372036854775807 := by have := hS.nc; have := hS.cm; omega
  have hnpm : np ≤ 9223372036854775807 := by have := hP.nc; have := hP.cm; omega
  have HAw := Lib.hid (fun w => awake_any w)
  have HFew := Lib.hid (fun w' (hb : Below w.heap.size w w') => few_any aS ns cS s ap np cp w' (fun h => (hS.rd (by omega)).kept hb) hnsm hnpm)
  by_cases hfew : fewB s ns np = true
  · rw [hfew] at HFew
    unfold fewB at hfew
    rw [decide_eq_true_eq] at hfew
    have hnp400 : np ≤ 400 := hfew.2.1
    have HC := Lib.hid (fun w' (hb : Below w.heap.size w w') => mCount_any aS ns cS s w' ((hS.rd (by omega)).kept hb))
    have HRC := Lib.hid (fun w' (hb : Below w.heap.size w w') => rCount_any aS ns cS s w' ((hS.rd (by omega)).kept hb))
    by_cases hok : okS s
    · have ec : cnt s = ((cntN s : Int), 0) := by unfold cnt; rw [if_pos hok]
      have er : rcnt s = (cntN s : Int) := by unfold rcnt; rw [if_pos hok]
      rw [ec] at HC
      rw [er] at HRC
      have hcb := cnt_bd hok
      by_cases hpn : np = cntN s
      · have hsl := (hS.rd (by omega)).1
        have hpl := (hP.rd (by omega)).1
        obtain ⟨m, hm⟩ : ∃ m, s.length = m + 1 := ⟨s.length - 1, by have := hok.1; omega⟩
        have hns : ns = m + 1 := by omega
        subst hns
        have hm15 : 1 ≤ m ∧ m ≤ 5 := by have := hok.1; have := hok.2.1; omega
        obtain ⟨bs, os, rfl, hbs, _⟩ := (hS.rd (by omega)).at (i := 0) (by omega)
        have HSp := Lib.hid (fun w' (hb : Below w.heap.size w w') => Split_ok (some ⟨bs, os, none⟩) (m + 1) cS s ap np cp p m w' ((hS.rd (by omega)).kept hb) ((hP.rd (by omega)).kept hb) hok hm (by rw [hpl, hpn]) hP.nc hP.cm)
        have HNp := Lib.hid (fun w' (hb : Below w.heap.size w w') => nplain_any (some ⟨bs, os, none⟩) (m + 1) cS ap np cp p w' ((hP.rd (by omega)).kept hb) (by omega))
        have HSr := Lib.hid (hS.rd (by omega))
        have HO := Lib.hid hok
        have HM := Lib.hid hm
        have hfm : fst s m = np := by rw [hpn]; unfold cntN; rw [hm, Nat.add_sub_cancel]
        have Hfm := Lib.hid hfm
        have Hpl := Lib.hid hpl
        have hm5 := hm15.2
        have hm1 := hm15.1
        clear hS hP hfew hok ec er hsl hpl hm hfm hm15
        rw [← hpn] at HC HRC
        clear hpn hcb
        go_enter Try.func9, Try.ntmps9
        go_wp2_with first
          | ((with_reducible refine (HAw.out _).mono ?_); rintro e w1 ⟨rfl, hb1⟩; obtain ⟨hc1, hf1⟩ := bcell hb1; have hz1 := hb1.size; (try simp at hz1 hc1 hf1); have lt1 : w.heap.size < w1.heap.size := (by omega))
          | ((with_reducible refine (HFew.out _ (by (repeat first | assumption | exact Below.refl _ _ | refine Below.drew ?_ | refine Below.drewN ?_ _ | refine Below.alloc ?_ (by (first | omega | (simp; done) | (simp; omega))) _ | refine Below.setCell ?_ (by (first | omega | (simp; done) | (simp; omega))) _ | refine Below.trans ?_ (Below.mono (by assumption) (by (first | omega | (simp; done) | (simp; omega))))))).mono ?_); rintro e w2 ⟨rfl, hb2⟩; obtain ⟨hc2, hf2⟩ := bcell hb2; have hz2 := hb2.size; (try simp at hz2 hc2 hf2); have lt2 : w.heap.size < w2.heap.size := (by omega))
          | ((with_reducible refine (HC.out _ (by (repeat first | assumption | exact Below.refl _ _ | refine Below.drew ?_ | refine Below.drewN ?_ _ | refine Below.alloc ?_ (by (first | omega | (simp; done) | (simp; omega))) _ | refine Below.setCell ?_ (by (first | omega | (simp; done) | (simp; omega))) _ | refine Below.trans ?_ (Below.mono (by assumption) (by (first | omega | (simp; done) | (simp; omega))))))).mono ?_); rintro e w3 ⟨rfl, rfl⟩)
          | fail
        have d0 : w2.cell? ⟨w.heap.size, 0, none⟩ = some (.slice (some ⟨bs, os, none⟩) (m + 1) cS) := by rw [hc2 _ _ (by omega), hc1 _ _ (by omega)]; go_simp
        have d1 : w2.cell? ⟨w.heap.size, 1, none⟩ = some (.slice ap np cp) := by rw [hc2 _ _ (by omega), hc1 _ _ (by omega)]; go_simp
        have Hb2 : Hid (Below w.heap.size w w2) := Lib.hid (by (repeat first | assumption | exact Below.refl _ _ | refine Below.drew ?_ | refine Below.drewN ?_ _ | refine Below.alloc ?_ (by (first | omega | (simp; done) | (simp; omega))) _ | refine Below.setCell ?_ (by (first | omega | (simp; done) | (simp; omega))) _ | refine Below.trans ?_ (Below.mono (by assumption) (by (first | omega | (simp; done) | (simp; omega))))))
        clear hb1 hb2 hc1 hc2 hf1 hf2
        ((with_reducible refine (HSp.out _ Hb2.out).mono ?_); rintro e w4 ⟨mv, ov, xs, zs, ys, rfl, hmr, hmx, hmo, hor, hoo, hb4⟩)
        obtain ⟨gM, cM, rfl, hgM, hcM⟩ := own_cells hmr (by omega)
        obtain ⟨gO, cO, rfl, hgO, hcO⟩ := own_cells hor (by omega)
        have f0 : w4.cell? ⟨w.heap.size, 0, none⟩ = some (.slice (some ⟨bs, os, none⟩) (m + 1) cS) := (hb4.cell (p := ⟨w.heap.size, 0, none⟩) lt2).trans d0
        have f1 : w4.cell? ⟨w.heap.size, 1, none⟩ = some (.slice ap np cp) := (hb4.cell (p := ⟨w.heap.size, 1, none⟩) lt2).trans d1
        have hz4 := hb4.size
        have Hb4 : Hid (Below w.heap.size w w4) := Lib.hid (Hb2.out.trans (hb4.mono (by omega)))
        have Hmx := Lib.hid hmx; have Hmo := Lib.hid hmo; have Hoo := Lib.hid hoo; have HcM := Lib.hid hcM; have HcO := Lib.hid hcO
        have Hor := Lib.hid hor
        clear hmr hmx hmo hor hoo hb4 hcM hcO d0 d1
        have lt4 : w.heap.size < w4.heap.size := by omega
        go_wp2_with fail
        ((with_reducible refine (HRC.out _ Hb4.out).mono ?_); rintro e w5 ⟨rfl, ⟨nd, rfl⟩⟩)
        have Hb5 : Hid (Below w.heap.size w (w4.drewN nd)) := Lib.hid (by have := Hb4.out; (repeat first | assumption | exact Below.refl _ _ | refine Below.drew ?_ | refine Below.drewN ?_ _ | refine Below.alloc ?_ (by (first | omega | (simp; done) | (simp; omega))) _ | refine Below.setCell ?_ (by (first | omega | (simp; done) | (simp; omega))) _ | refine Below.trans ?_ (Below.mono (by assumption) (by (first | omega | (simp; done) | (simp; omega))))))
        go_wp2_with fail
        ((with_reducible refine (HNp.out _ Hb5.out).mono ?_); rintro e w6 ⟨aP, cP, rfl, hrP, haP, hb6⟩)
        obtain ⟨hc6, hf6⟩ := bcell hb6
        have hz6 := hb6.size
        simp at hz6 hc6 hf6
        have lt6 : w.heap.size < w6.heap.size := by omega
        go_wp2_with fail
        have HB7 : Hid (Below w4.heap.size w4 (w6.alloc (.cells #[.slice (some ⟨bs, os, none⟩) (m + 1) cS, .slice aP np cP] 83))) := Lib.hid (by (repeat first | assumption | exact Below.refl _ _ | refine Below.drew ?_ | refine Below.drewN ?_ _ | refine Below.alloc ?_ (by (first | omega | (simp; done) | (simp; omega))) _ | refine Below.setCell ?_ (by (first | omega | (simp; done) | (simp; omega))) _ | refine Below.trans ?_ (Below.mono (by assumption) (by (first | omega | (simp; done) | (simp; omega))))))
        have g7n0 : (w6.alloc (.cells #[.slice (some ⟨bs, os, none⟩) (m + 1) cS, .slice aP np cP] 83)).cell? ⟨w6.heap.size, 0, none⟩ = some (.slice (some ⟨bs, os, none⟩) (m + 1) cS) := World.cell?_alloc_at _ _ _ _ rfl
        have g7n1 : (w6.alloc (.cells #[.slice (some ⟨bs, os, none⟩) (m + 1) cS, .slice aP np cP] 83)).cell? ⟨w6.heap.size, 1, none⟩ = some (.slice aP np cP) := World.cell?_alloc_at _ _ _ _ rfl
        have Hr7 : Hid (Rd (w6.alloc (.cells #[.slice (some ⟨bs, os, none⟩) (m + 1) cS, .slice aP np cP] 83)) .i64 aP np p) := Lib.hid (hrP.kept ((Below.refl _ _).alloc (Nat.le_refl _) _))
        generalize hW7 : w6.alloc (.cells #[.slice (some ⟨bs, os, none⟩) (m + 1) cS, .slice aP np cP] 83) = W7 at *
        have hz7 : W7.heap.size = w6.heap.size + 1 := by rw [← hW7]; simp
        clear hW7 hrP haP hb6 hc6 hf6
        have hbsw : bs < w.heap.size := hbs
        go_loopw [100] (fun j wi => ∃ l : Nat, l ≤ m ∧ j = .int .i64 l ∧ Hid (Below W7.heap.size W7 wi)) (fun j _ => m - (intOf j).toNat)
        case atStart => exact ⟨0, Nat.zero_le _, rfl, Below.refl _ _⟩
        case round =>
          rename World => wl
          obtain ⟨l, hl, rfl, hbl⟩ := hrel
          by_cases hlt : l < m
          · have hzl := hbl.out.size
            have HBl := Lib.hid (HB7.out.trans (hbl.out.mono (by omega)))
            obtain ⟨e0, q1, q2⟩ := HO.out.szv (i := l) (by rw [HM.out]; omega)
            obtain ⟨e1, r1, r2⟩ := HO.out.szv (i := l + 1) (by rw [HM.out]; omega)
            obtain ⟨_, _, ee, _, hs0⟩ := HSr.out.at (i := l) (by omega)
            cases ee
            obtain ⟨_, _, ee, _, hs1⟩ := HSr.out.at (i := l + 1) (by omega)
            cases ee
            rw [e0] at hs0
            rw [e1] at hs1
            clear e0 e1
            have hfl := fst_mono s (i := l + 1) (j := m) (by omega)
            rw [Hfm.out] at hfl
            have hla : (lAs s p m)[l]?.getD [] = lA s p l := by simp [lAs, hlt]
            have hlb : (lBs s p m)[l]?.getD [] = lB s p l := by simp [lBs, hlt]
            obtain ⟨aA, cA, hzA, hrA, hbA⟩ := Hmo.out.rd (i := l) (n := szN s (l + 1) * szN s l) (by simp [lAs]; omega) (by rw [hla, lA_len (by rw [Hpl.out]; exact hfl)]) (by have : szN s (l + 1) * szN s l ≤ 64 * 64 := Nat.mul_le_mul r2 q2; omega)
            obtain ⟨aB, cB, hzB, hrB, hbB⟩ := Hoo.out.rd (i := l) (n := szN s (l + 1)) (by simp [lBs]; omega) (by rw [hlb, lB_len (by rw [Hpl.out]; exact hfl)]) (by omega)
            rw [hla] at hrA
            rw [hlb] at hrB
            obtain ⟨x0', x1', x2'⟩ := Hmx.out.2.2 l hlt
            rw [hzA] at x2'
            have t0 := HcM.out _ _ x0'
            have t1 := HcM.out _ _ x1'
            have t2 := HcM.out _ _ x2'
            have t3 := HcO.out _ _ hzB
            have HAat := Lib.hid (fun j (hj : j < szN s (l + 1) * szN s l) => lA_at (s := s) (p := p) hj)
            have HBat := Lib.hid (fun j (hj : j < szN s (l + 1)) => lB_at (s := s) (p := p) hj)
            have hqr : szN s (l + 1) * szN s l ≤ 64 * 64 := Nat.mul_le_mul r2 q2
            have hfs := fst_succ s l
            have HWe := Lib.hid (fun w' o i (hb : Below wl.heap.size wl w') (ho : o < 64) (hi : i < 64) hix => Weight_any bs os cS m s aP np cP p l o i w' ((HSr.out.kept (Hb4.out.trans ((HBl.out).mono (by omega)))).kept hb) HO.out hlt ho hi ((Hr7.out.kept hbl.out).kept hb) hix (by omega))
            have HOf := Lib.hid (fun w' o (hb : Below wl.heap.size wl w') (ho : o < 64) hix => Offset_any bs os cS m s aP np cP p l o w' ((HSr.out.kept (Hb4.out.trans ((HBl.out).mono (by omega)))).kept hb) HO.out hlt ho ((Hr7.out.kept hbl.out).kept hb) hix (by omega) hm5)
            have hmul : (szN s (l + 1) : Int) * (szN s l : Int) = ((szN s (l + 1) * szN s l : Nat) : Int) := by simp
            have HrA := Lib.hid (hrA.kept HBl.out)
            have HrB := Lib.hid (hrB.kept HBl.out)
            have v0 : wl.cell? ⟨bs, os + l, none⟩ = some (.int .i64 (szN s l : Int)) := (HBl.out.cell (p := ⟨bs, os + l, none⟩) (by show bs < _; omega)).trans ((Hb4.out.cell (p := ⟨bs, os + l, none⟩) hbsw).trans hs0)
            have v1 : wl.cell? ⟨bs, os + (l + 1), none⟩ = some (.int .i64 (szN s (l + 1) : Int)) := (HBl.out.cell (p := ⟨bs, os + (l + 1), none⟩) (by show bs < _; omega)).trans ((Hb4.out.cell (p := ⟨bs, os + (l + 1), none⟩) hbsw).trans hs1)
            generalize hnA : szN s (l + 1) * szN s l = nA at *
            generalize hr : szN s (l + 1) = r at *
            generalize hq : szN s l = q at *
            have HnA := Lib.hid hnA
            clear hla hlb hzA hzB x0' x1' x2' hs0 hs1 hrA hrB hbA hbB hr hq hnA
            have c0 : wl.cell? ⟨gM, l * 3, none⟩ = some (.int .i64 (r : Int)) := (HBl.out.cell (p := ⟨gM, l * 3, none⟩) hgM).trans t0
            have c1 : wl.cell? ⟨gM, l * 3 + 1, none⟩ = some (.int .i64 (q : Int)) := (HBl.out.cell (p := ⟨gM, l * 3 + 1, none⟩) hgM).trans t1
            have c2 : wl.cell? ⟨gM, l * 3 + 2, none⟩ = some (.slice aA nA cA) := (HBl.out.cell (p := ⟨gM, l * 3 + 2, none⟩) hgM).trans t2
            have o0 : wl.cell? ⟨gO, l, none⟩ = some (.slice aB r cB) := (HBl.out.cell (p := ⟨gO, l, none⟩) hgO).trans t3
            have s0 := v0
            have s1 := v1
            have lf0 : wl.cell? ⟨w.heap.size, 0, none⟩ = some (.slice (some ⟨bs, os, none⟩) (m + 1) cS) := (HBl.out.cell (p := ⟨w.heap.size, 0, none⟩) lt4).trans f0
            have n0 : wl.cell? ⟨w6.heap.size, 0, none⟩ = some (.slice (some ⟨bs, os, none⟩) (m + 1) cS) := (hbl.out.cell (p := ⟨w6.heap.size, 0, none⟩) (by show w6.heap.size < _; omega)).trans g7n0
            have n1 : wl.cell? ⟨w6.heap.size, 1, none⟩ = some (.slice aP np cP) := (hbl.out.cell (p := ⟨w6.heap.size, 1, none⟩) (by show w6.heap.size < _; omega)).trans g7n1
            clear t0 t1 t2 t3 v0 v1
            have hw1 : IntKind.i64.wrap ((l : Int) + 1) = (l : Int) + 1 := by rw [IntKind.wrap_i64]; omega
            have hw2 : IntKind.i64.wrap (nA : Int) = (nA : Int) := by rw [IntKind.wrap_i64]; omega
            have hl0 : (0 : Int) ≤ (l : Int) := by omega
            have hl1 : (l : Int) < (m : Int) := by omega
            have hl2 : (l : Int) < (m : Int) + 1 := by omega
            have hl3 : (l : Int) + 1 < (m : Int) + 1 := by omega
            have hl4 : (0 : Int) ≤ (l : Int) + 1 := by omega
            go_wp2
            go_quiet (fail)
            go_wp2
            go_loopw [166] (fun j wi => ∃ oo : Nat, oo ≤ r ∧ j = .int .i64 oo ∧ Hid (Below wl.heap.size wl wi)) (fun j _ => r - (intOf j).toNat)
            case atStart => exact ⟨0, Nat.zero_le _, rfl, Lib.hid (by (repeat first | assumption | exact Below.refl _ _ | refine Below.drew ?_ | refine Below.drewN ?_ _ | refine Below.alloc ?_ (by (first | omega | (simp; done) | (simp; omega))) _ | refine Below.setCell ?_ (by (first | omega | (simp; done) | (simp; omega))) _ | refine Below.trans ?_ (Below.mono (by assumption) (by (first | omega | (simp; done) | (simp; omega))))))⟩
            case round =>
              rename World => wo
              obtain ⟨oo, hoo', rfl, hbo⟩ := hrel
              have hzo := hbo.out.size
              have o_c0 : wo.cell? ⟨gM, l * 3, none⟩ = some (.int .i64 (r : Int)) := (hbo.out.cell (p := ⟨gM, l * 3, none⟩) (by show gM < _; omega)).trans c0
              have o_c1 : wo.cell? ⟨gM, l * 3 + 1, none⟩ = some (.int .i64 (q : Int)) := (hbo.out.cell (p := ⟨gM, l * 3 + 1, none⟩) (by show gM < _; omega)).trans c1
              have o_c2 : wo.cell? ⟨gM, l * 3 + 2, none⟩ = some (.slice aA nA cA) := (hbo.out.cell (p := ⟨gM, l * 3 + 2, none⟩) (by show gM < _; omega)).trans c2
              have o_o0 : wo.cell? ⟨gO, l, none⟩ = some (.slice aB r cB) := (hbo.out.cell (p := ⟨gO, l, none⟩) (by show gO < _; omega)).trans o0
              have o_n0 : wo.cell? ⟨w6.heap.size, 0, none⟩ = some (.slice (some ⟨bs, os, none⟩) (m + 1) cS) := (hbo.out.cell (p := ⟨w6.heap.size, 0, none⟩) (by show w6.heap.size < _; omega)).trans n0
              have o_n1 : wo.cell? ⟨w6.heap.size, 1, none⟩ = some (.slice aP np cP) := (hbo.out.cell (p := ⟨w6.heap.size, 1, none⟩) (by show w6.heap.size < _; omega)).trans n1
              by_cases hlt2 : oo < r
              · go_wp2
                go_loopw [174] (fun j wi => ∃ ii : Nat, ii ≤ q ∧ j = .int .i64 ii ∧ Hid (Below wl.heap.size wl wi)) (fun j _ => q - (intOf j).toNat)
                case atStart => exact ⟨0, Nat.zero_le _, rfl, hbo.out⟩
                case round =>
                  rename World => wi
                  obtain ⟨ii, hii, rfl, hbi⟩ := hrel
                  have hzi := hbi.out.size
                  have i_c0 : wi.cell? ⟨gM, l * 3, none⟩ = some (.int .i64 (r : Int)) := (hbi.out.cell (p := ⟨gM, l * 3, none⟩) (by show gM < _; omega)).trans c0
                  have i_c1 : wi.cell? ⟨gM, l * 3 + 1, none⟩ = some (.int .i64 (q : Int)) := (hbi.out.cell (p := ⟨gM, l * 3 + 1, none⟩) (by show gM < _; omega)).trans c1
                  have i_c2 : wi.cell? ⟨gM, l * 3 + 2, none⟩ = some (.slice aA nA cA) := (hbi.out.cell (p := ⟨gM, l * 3 + 2, none⟩) (by show gM < _; omega)).trans c2
                  have i_o0 : wi.cell? ⟨gO, l, none⟩ = some (.slice aB r cB) := (hbi.out.cell (p := ⟨gO, l, none⟩) (by show gO < _; omega)).trans o0
                  have i_n0 : wi.cell? ⟨w6.heap.size, 0, none⟩ = some (.slice (some ⟨bs, os, none⟩) (m + 1) cS) := (hbi.out.cell (p := ⟨w6.heap.size, 0, none⟩) (by show w6.heap.size < _; omega)).trans n0
                  have i_n1 : wi.cell? ⟨w6.heap.size, 1, none⟩ = some (.slice aP np cP) := (hbi.out.cell (p := ⟨w6.heap.size, 1, none⟩) (by show w6.heap.size < _; omega)).trans n1
                  by_cases hlt3 : ii < q
                  · obtain ⟨oq, hoq⟩ : ∃ oq, oo * q = oq := ⟨_, rfl⟩
                    have hmq : (oo : Int) * (q : Int) = (oq : Int) := by rw [← hoq]; simp
                    have hoqn : oq + q ≤ nA := by
                      have h5 : (oo + 1) * q ≤ r * q := Nat.mul_le_mul_right _ (by omega)
                      rw [HnA.out, Nat.add_mul, hoq] at h5
                      omega
                    obtain ⟨ix, hix⟩ : ∃ ix, oq + ii = ix := ⟨_, rfl⟩
                    have hixs : (oq : Int) + (ii : Int) = (ix : Int) := by omega
                    have hw5 : IntKind.i64.wrap (oq : Int) = (oq : Int) := by rw [IntKind.wrap_i64]; omega
                    have hw6 : IntKind.i64.wrap (ix : Int) = (ix : Int) := by rw [IntKind.wrap_i64]; omega
                    have hixn : ix < nA := by omega
                    have hixi : (ix : Int) < (nA : Int) := by omega
                    have hix0 : (0 : Int) ≤ (ix : Int) := by omega
                    obtain ⟨bA, oA, rfl, hbA, hcA⟩ := (HrA.out.kept hbi.out).at (i := ix) hixn
                    rw [HAat.out ix hixn] at hcA
                    have HWq := Lib.hid (fun w' (hb : Below wl.heap.size wl w') => HWe.out w' oo ii hb (by omega) (by omega) (by rw [hoq]; omega))
                    rw [show fst s l + oo * q + ii = fst s l + ix by rw [hoq]; omega] at HWq
                    generalize p[fst s l + ix]?.getD 0 = z at *
                    clear hoq hix
                    go_wp2
                    go_region_held3 (fun w' => w'.cell? ⟨gM, l * 3 + 1, none⟩ = some (.int .i64 (q : Int)) ∧ w'.cell? ⟨gM, l * 3 + 2, none⟩ = some (.slice (some ⟨bA, oA, none⟩) nA cA) ∧ w'.cell? ⟨w6.heap.size, 0, none⟩ = some (.slice (some ⟨bs, os, none⟩) (m + 1) cS) ∧ w'.cell? ⟨w6.heap.size, 1, none⟩ = some (.slice aP np cP) ∧ w'.cell? ⟨bA, oA + ix, none⟩ = some (.int .i64 z))
                      (first | assumption | go_keep)
                      (first
                        | (go_at_call 38; refine (HWq.out _ (by have := hbi.out; (repeat first | assumption | exact Below.refl _ _ | refine Below.drew ?_ | refine Below.drewN ?_ _ | refine Below.alloc ?_ (by (first | omega | (simp; done) | (simp; omega))) _ | refine Below.setCell ?_ (by (first | omega | (simp; done) | (simp; omega))) _ | refine Below.trans ?_ (Below.mono (by assumption) (by (first | omega | (simp; done) | (simp; omega))))))).mono ?_; rintro e w8 ⟨rfl, hb8⟩; have hz8 := hb8.size; obtain ⟨hc8, hf8⟩ := bcell hb8; (try simp at hz8 hc8 hf8); have s8 : w8.cell? ⟨gM, l * 3 + 1, none⟩ = some (.int .i64 (q : Int)) ∧ w8.cell? ⟨gM, l * 3 + 2, none⟩ = some (.slice (some ⟨bA, oA, none⟩) nA cA) ∧ w8.cell? ⟨w6.heap.size, 0, none⟩ = some (.slice (some ⟨bs, os, none⟩) (m + 1) cS) ∧ w8.cell? ⟨w6.heap.size, 1, none⟩ = some (.slice aP np cP) ∧ w8.cell? ⟨bA, oA + ix, none⟩ = some (.int .i64 z) := ⟨(hc8 _ _ (by omega)).trans i_c1, (hc8 _ _ (by omega)).trans i_c2, (hc8 _ _ (by omega)).trans i_n0, (hc8 _ _ (by omega)).trans i_n1, (hc8 _ _ (by omega)).trans hcA⟩))
                    all_goals
                      have Hb8 : Hid (Below wl.heap.size wl w8) := Lib.hid (by have := hbi.out; (repeat first | assumption | exact Below.refl _ _ | refine Below.drew ?_ | refine Below.drewN ?_ _ | refine Below.alloc ?_ (by (first | omega | (simp; done) | (simp; omega))) _ | refine Below.setCell ?_ (by (first | omega | (simp; done) | (simp; omega))) _ | refine Below.trans ?_ (Below.mono (by assumption) (by (first | omega | (simp; done) | (simp; omega))))))
                      clear hb8 hc8 hf8 s8
                      go_wp2
                      go_roundw
                      case rel => exact ⟨ii + 1, by omega, by go_num, Hb8.out⟩
                      case measure => simp [intOf]; omega
                  · obtain rfl : ii = q := by omega
                    obtain ⟨bB, oB, rfl, hbB, hcB⟩ := (HrB.out.kept hbi.out).at (i := oo) hlt2
                    rw [HBat.out oo hlt2] at hcB
                    have HOq := Lib.hid (fun w' (hb : Below wl.heap.size wl w') => HOf.out w' oo hb (by omega) (by omega))
                    have hoi : (oo : Int) < (r : Int) := by omega
                    have ho0 : (0 : Int) ≤ (oo : Int) := by omega
                    generalize p[fst s l + nA + oo]?.getD 0 = z at *
                    go_wp2
                    go_region_held3 (fun w' => w'.cell? ⟨gO, l, none⟩ = some (.slice (some ⟨bB, oB, none⟩) r cB) ∧ w'.cell? ⟨w6.heap.size, 0, none⟩ = some (.slice (some ⟨bs, os, none⟩) (m + 1) cS) ∧ w'.cell? ⟨w6.heap.size, 1, none⟩ = some (.slice aP np cP) ∧ w'.cell? ⟨bB, oB + oo, none⟩ = some (.int .i64 z))
                      (first | assumption | go_keep)
                      (first
                        | (go_at_call 39; refine (HOq.out _ (by have := hbi.out; (repeat first | assumption | exact Below.refl _ _ | refine Below.drew ?_ | refine Below.drewN ?_ _ | refine Below.alloc ?_ (by (first | omega | (simp; done) | (simp; omega))) _ | refine Below.setCell ?_ (by (first | omega | (simp; done) | (simp; omega))) _ | refine Below.trans ?_ (Below.mono (by assumption) (by (first | omega | (simp; done) | (simp; omega))))))).mono ?_; rintro e w9 ⟨rfl, hb9⟩; have hz9 := hb9.size; obtain ⟨hc9, hf9⟩ := bcell hb9; (try simp at hz9 hc9 hf9); have s9 : w9.cell? ⟨gO, l, none⟩ = some (.slice (some ⟨bB, oB, none⟩) r cB) ∧ w9.cell? ⟨w6.heap.size, 0, none⟩ = some (.slice (some ⟨bs, os, none⟩) (m + 1) cS) ∧ w9.cell? ⟨w6.heap.size, 1, none⟩ = some (.slice aP np cP) ∧ w9.cell? ⟨bB, oB + oo, none⟩ = some (.int .i64 z) := ⟨(hc9 _ _ (by omega)).trans i_o0, (hc9 _ _ (by omega)).trans i_n0, (hc9 _ _ (by omega)).trans i_n1, (hc9 _ _ (by omega)).trans hcB⟩))
                    all_goals
                      have Hb9 : Hid (Below wl.heap.size wl w9) := Lib.hid (by have := hbi.out; (repeat first | assumption | exact Below.refl _ _ | refine Below.drew ?_ | refine Below.drewN ?_ _ | refine Below.alloc ?_ (by (first | omega | (simp; done) | (simp; omega))) _ | refine Below.setCell ?_ (by (first | omega | (simp; done) | (simp; omega))) _ | refine Below.trans ?_ (Below.mono (by assumption) (by (first | omega | (simp; done) | (simp; omega))))))
                      clear hb9 hc9 hf9 s9
                      go_wp2
                      go_roundw
                      case rel => exact ⟨oo + 1, by omega, by go_num, Hb9.out⟩
                      case measure => simp [intOf]; omega
              · obtain rfl : oo = r := by omega
                go_wp2
                go_roundw
                case rel => exact ⟨l + 1, by omega, by go_num, hbl.out.trans (hbo.out.mono (by omega))⟩
                case measure => simp [intOf]; omega
          · obtain rfl : l = m := by omega
            go_wp2
            go_ret
            exact ⟨rfl, Hb4.out.trans ((HB7.out.trans (hbl.out.mono (by omega))).mono (by omega))⟩
      · have e40 : shp s np = 40 := by unfold shp; rw [if_pos hok, if_neg hpn]
        have HSp := Lib.hid (fun w' (hb : Below w.heap.size w w') => Split_bad aS ns cS s ap np cp w' 40 ((hS.rd (by omega)).kept hb) (by omega) e40 (by omega))
        have hne : ((np : Int) != (cntN s : Int)) = true := by simpa using (by omega : ¬ (np : Int) = cntN s)
        have hne2 : ((np : Int) == (cntN s : Int)) = false := by simpa using (by omega : ¬ (np : Int) = cntN s)
        clear hS hP hfew hok ec er e40
        generalize cntN s = r at *
        go_enter Try.func9, Try.ntmps9
        go_wp2_with first
          | ((with_reducible refine (HAw.out _).mono ?_); rintro e w1 ⟨rfl, hb1⟩; obtain ⟨hc1, hf1⟩ := bcell hb1; have hz1 := hb1.size; (try simp at hz1 hc1 hf1); have lt1 : w.heap.size < w1.heap.size := (by omega))
          | ((with_reducible refine (HFew.out _ (by (repeat first | assumption | exact Below.refl _ _ | refine Below.drew ?_ | refine Below.drewN ?_ _ | refine Below.alloc ?_ (by (first | omega | (simp; done) | (simp; omega))) _ | refine Below.setCell ?_ (by (first | omega | (simp; done) | (simp; omega))) _ | refine Below.trans ?_ (Below.mono (by assumption) (by (first | omega | (simp; done) | (simp; omega))))))).mono ?_); rintro e w2 ⟨rfl, hb2⟩; obtain ⟨hc2, hf2⟩ := bcell hb2; have hz2 := hb2.size; (try simp at hz2 hc2 hf2); have lt2 : w.heap.size < w2.heap.size := (by omega))
          | ((with_reducible refine (HC.out _ (by (repeat first | assumption | exact Below.refl _ _ | refine Below.drew ?_ | refine Below.drewN ?_ _ | refine Below.alloc ?_ (by (first | omega | (simp; done) | (simp; omega))) _ | refine Below.setCell ?_ (by (first | omega | (simp; done) | (simp; omega))) _ | refine Below.trans ?_ (Below.mono (by assumption) (by (first | omega | (simp; done) | (simp; omega))))))).mono ?_); rintro e w3 ⟨rfl, rfl⟩)
          | ((with_reducible refine (HSp.out _ (by (repeat first | assumption | exact Below.refl _ _ | refine Below.drew ?_ | refine Below.drewN ?_ _ | refine Below.alloc ?_ (by (first | omega | (simp; done) | (simp; omega))) _ | refine Below.setCell ?_ (by (first | omega | (simp; done) | (simp; omega))) _ | refine Below.trans ?_ (Below.mono (by assumption) (by (first | omega | (simp; done) | (simp; omega))))))).mono ?_); rintro e w4 ⟨rfl, rfl⟩)
          | ((with_reducible refine (HRC.out _ (by (repeat first | assumption | exact Below.refl _ _ | refine Below.drew ?_ | refine Below.drewN ?_ _ | refine Below.alloc ?_ (by (first | omega | (simp; done) | (simp; omega))) _ | refine Below.setCell ?_ (by (first | omega | (simp; done) | (simp; omega))) _ | refine Below.trans ?_ (Below.mono (by assumption) (by (first | omega | (simp; done) | (simp; omega))))))).mono ?_); rintro e w5 ⟨rfl, ⟨nd, rfl⟩⟩)
          | fail
        go_ret
        exact ⟨rfl, by (repeat first | assumption | exact Below.refl _ _ | refine Below.drew ?_ | refine Below.drewN ?_ _ | refine Below.alloc ?_ (by (first | omega | (simp; done) | (simp; omega))) _ | refine Below.setCell ?_ (by (first | omega | (simp; done) | (simp; omega))) _ | refine Below.trans ?_ (Below.mono (by assumption) (by (first | omega | (simp; done) | (simp; omega)))))⟩
    · have ec : cnt s = (0, 70) := by unfold cnt; rw [if_neg hok]
      have er : rcnt s = -1 := by unfold rcnt; rw [if_neg hok]
      have e70 : shp s np = 70 := by unfold shp; rw [if_neg hok]
      rw [ec] at HC
      rw [er] at HRC
      have HSp := Lib.hid (fun w' (hb : Below w.heap.size w w') => Split_bad aS ns cS s ap np cp w' 70 ((hS.rd (by omega)).kept hb) (by omega) e70 (by omega))
      clear hS hP hfew hok ec er e70
      go_enter Try.func9, Try.ntmps9
      go_wp2_with first
        | ((with_reducible refine (HAw.out _).mono ?_); rintro e w1 ⟨rfl, hb1⟩; obtain ⟨hc1, hf1⟩ := bcell hb1; have hz1 := hb1.size; (try simp at hz1 hc1 hf1); have lt1 : w.heap.size < w1.heap.size := (by omega))
        | ((with_reducible refine (HFew.out _ (by (repeat first | assumption | exact Below.refl _ _ | refine Below.drew ?_ | refine Below.drewN ?_ _ | refine Below.alloc ?_ (by (first | omega | (simp; done) | (simp; omega))) _ | refine Below.setCell ?_ (by (first | omega | (simp; done) | (simp; omega))) _ | refine Below.trans ?_ (Below.mono (by assumption) (by (first | omega | (simp; done) | (simp; omega))))))).mono ?_); rintro e w2 ⟨rfl, hb2⟩; obtain ⟨hc2, hf2⟩ := bcell hb2; have hz2 := hb2.size; (try simp at hz2 hc2 hf2); have lt2 : w.heap.size < w2.heap.size := (by omega))
        | ((with_reducible refine (HC.out _ (by (repeat first | assumption | exact Below.refl _ _ | refine Below.drew ?_ | refine Below.drewN ?_ _ | refine Below.alloc ?_ (by (first | omega | (simp; done) | (simp; omega))) _ | refine Below.setCell ?_ (by (first | omega | (simp; done) | (simp; omega))) _ | refine Below.trans ?_ (Below.mono (by assumption) (by (first | omega | (simp; done) | (simp; omega))))))).mono ?_); rintro e w3 ⟨rfl, rfl⟩)
        | ((with_reducible refine (HSp.out _ (by (repeat first | assumption | exact Below.refl _ _ | refine Below.drew ?_ | refine Below.drewN ?_ _ | refine Below.alloc ?_ (by (first | omega | (simp; done) | (simp; omega))) _ | refine Below.setCell ?_ (by (first | omega | (simp; done) | (simp; omega))) _ | refine Below.trans ?_ (Below.mono (by assumption) (by (first | omega | (simp; done) | (simp; omega))))))).mono ?_); rintro e w4 ⟨rfl, rfl⟩)
        | ((with_reducible refine (HRC.out _ (by (repeat first | assumption | exact Below.refl _ _ | refine Below.drew ?_ | refine Below.drewN ?_ _ | refine Below.alloc ?_ (by (first | omega | (simp; done) | (simp; omega))) _ | refine Below.setCell ?_ (by (first | omega | (simp; done) | (simp; omega))) _ | refine Below.trans ?_ (Below.mono (by assumption) (by (first | omega | (simp; done) | (simp; omega))))))).mono ?_); rintro e w5 ⟨rfl, ⟨nd, rfl⟩⟩)
        | fail
      go_ret
      exact ⟨rfl, by (repeat first | assumption | exact Below.refl _ _ | refine Below.drew ?_ | refine Below.drewN ?_ _ | refine Below.alloc ?_ (by (first | omega | (simp; done) | (simp; omega))) _ | refine Below.setCell ?_ (by (first | omega | (simp; done) | (simp; omega))) _ | refine Below.trans ?_ (Below.mono (by assumption) (by (first | omega | (simp; done) | (simp; omega)))))⟩
  · rw [show fewB s ns np = false by simpa using hfew] at HFew
    clear hS hP hfew
    go_enter Try.func9, Try.ntmps9
    go_wp2_with first
      | ((with_reducible refine (HAw.out _).mono ?_); rintro e w1 ⟨rfl, hb1⟩; obtain ⟨hc1, hf1⟩ := bcell hb1; have hz1 := hb1.size; (try simp at hz1 hc1 hf1); have lt1 : w.heap.size < w1.heap.size := (by omega))
      | ((with_reducible refine (HFew.out _ (by (repeat first | assumption | exact Below.refl _ _ | refine Below.drew ?_ | refine Below.drewN ?_ _ | refine Below.alloc ?_ (by (first | omega | (simp; done) | (simp; omega))) _ | refine Below.setCell ?_ (by (first | omega | (simp; done) | (simp; omega))) _ | refine Below.trans ?_ (Below.mono (by assumption) (by (first | omega | (simp; done) | (simp; omega))))))).mono ?_); rintro e w2 ⟨rfl, hb2⟩; obtain ⟨hc2, hf2⟩ := bcell hb2; have hz2 := hb2.size; (try simp at hz2 hc2 hf2); have lt2 : w.heap.size < w2.heap.size := (by omega))
      | fail
    go_ret
    exact ⟨rfl, by (repeat first | assumption | exact Below.refl _ _ | refine Below.drew ?_ | refine Below.drewN ?_ _ | refine Below.alloc ?_ (by (first | omega | (simp; done) | (simp; omega))) _ | refine Below.setCell ?_ (by (first | omega | (simp; done) | (simp; omega))) _ | refine Below.trans ?_ (Below.mono (by assumption) (by (first | omega | (simp; done) | (simp; omega)))))⟩
end Go.Proofs.Ytdamenbpgkhiiaa
