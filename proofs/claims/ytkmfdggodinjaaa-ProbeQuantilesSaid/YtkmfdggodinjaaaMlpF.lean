/-
  Layer mlp: the values of a net at an input: the walk.
-/
import Derived.Test.YtkmfdggodinjaaaMlpE
namespace Go.Proofs.Ytkmfdggodinjaaa
open Go.RowKit
set_option linter.unusedVariables false
set_option linter.unusedSimpArgs false

theorem vals_last (s p x : List Int) (i : Nat) : (vals s p x (i + 1))[i]?.getD [] = val s p x i := by
  simp [vals]

set_option maxHeartbeats 4000000 in
set_option maxRecDepth 100000 in
theorem values_any (u : Option Nat) (n : Int) (g cl m b o np : Nat) (s p : List Int) (ax : Option Addr) (nx cx : Nat) (x : List Int) (w : World)
    (hg : g < w.heap.size) (hL : LaysAt w g b o s m) (hs : okS s) (hm : s.length = m + 1) (hp : Rd w .i64 (some ⟨b, o, none⟩) np p) (hnp : cntN s = np) (hx : Rd w .i64 ax nx x) (hnx : nx = szN s 0)
    (hnone : ax = none → cx = 0) (og : ¬ UC u g) (ob : ¬ UC u b) (ip : A64 p) (ix : A64 x) (hu : Un w u n) :
    Calls Try.prog 41 #[uV u, .slice (some ⟨g, 0, none⟩) m cl, .slice ax nx cx] w fun e w' => ∃ v xs, e = .returned v ∧ w'.ownsRow w.heap.size 22 1 v (m + 1) xs ∧ OwS w' w.heap.size 23 .i64 xs (vals s p x (m + 1)) ∧ Chg (UC u) w w' ∧ Un w' u (cntV n s p x m) := by
  have h6 := hs.2.1
  have hxl := hx.1
  have hs0 := hs.szv (i := 0) (by omega)
  have HL := Lib.hid hL; have HS := Lib.hid hs; have HM := Lib.hid hm; have HP := Lib.hid hp; have HX := Lib.hid hx
  have Hnp : Hid (fst s m = np) := Lib.hid (by rw [← hnp]; unfold cntN; rw [hm, Nat.add_sub_cancel])
  have OG := Lib.hid og; have OB := Lib.hid ob; have IP := Lib.hid ip; have IX := Lib.hid ix; have HU := Lib.hid hu
  have hUlt := Lib.hid (fun k (hk : UC u k) => hu.lt hk)
  have HC := Lib.hid (fun w' hb => clone_any ax nx cx x w' (HX.out.kept (w := w) (w' := w') hb) (by omega) hnone)
  have Hlen : Hid (∀ i, (val s p x i).length = szN s i) := Lib.hid (val_len (by rw [hxl, hnx]))
  have Hv0 : Hid (vals s p x 1 = [x]) := Lib.hid rfl
  rw [hm] at h6
  have hbw : b < w.heap.size := by
    have h1 := hs.szv (i := 0) (by omega)
    have h2 := hs.szv (i := 0 + 1) (by have := hs.1; omega)
    have h3 : 0 < np := by
      have := fst_mono s (i := 0 + 1) (j := m) (by have := hs.1; omega)
      rw [fst_succ] at this
      have := Hnp.out
      omega
    obtain ⟨b', o', e, hb', _⟩ := hp.2.2 h3
    cases e; exact hb'
  clear hL hs hm hp hx hnp og ob ip ix hu hs0 hnone hxl hnx
  generalize huv : uV u = uv at *
  have Huv := Lib.hid huv; clear huv
  go_enter Try.func41, Try.ntmps41
  go_wp2_with fail
  refine (HC.out _ (Below.refl _ _)).mono ?_
  rintro e w1 ⟨v1, rfl, ho1, hb1⟩
  obtain ⟨a1, c1, rfl, _⟩ := ownsRow_form ho1
  have hz1 := hb1.size
  go_wp2
  have Hr0 := Lib.hid (World.ownsRow_lit (base := w.heap.size) (size := 1) (e := 22) w1 #[.slice a1 x.length c1] 1 hz1 (by unfold maxLen; omega) rfl)
  have Hos0 : Hid (OwS (w1.alloc (.cells #[.slice a1 x.length c1] 22)) w.heap.size 23 .i64 [.slice a1 x.length c1] [x]) := Lib.hid ⟨rfl, fun i hi => by
    obtain rfl : i = 0 := by simp at hi; omega
    exact Ow.kept ho1 ((Below.refl _ _).alloc (Nat.le_refl _) _)⟩
  have Hb0 : Hid (Below w.heap.size w (w1.alloc (.cells #[.slice a1 x.length c1] 22))) := Lib.hid (by (repeat first | assumption | exact Below.refl _ _ | refine Below.drew ?_ | refine Below.drewN ?_ _ | refine Below.alloc ?_ (by (first | omega | (simp; done) | (simp; omega))) _ | refine Below.setCell ?_ (by (first | omega | (simp; done) | (simp; omega))) _ | refine Below.trans ?_ (Below.mono (by assumption) (by (first | omega | (simp; done) | (simp; omega))))))
  clear ho1 hb1
  go_loopw [7, 17] (fun lv k wr => ∃ (i : Nat) (xs : List Value), i ≤ m ∧ k = .int .i64 i ∧ Hid (wr.ownsRow w.heap.size 22 1 lv (i + 1) xs) ∧ Hid (OwS wr w.heap.size 23 .i64 xs (vals s p x (i + 1))) ∧ Hid (Chg (UC u) w wr) ∧ Hid (Un wr u (cntV n s p x i))) (fun _ k _ => m - (intOf k).toNat)
  case atStart => exact ⟨0, _, Nat.zero_le _, rfl, Hr0.out, by rw [Hv0.out]; exact Hos0.out, Chg.of_below Hb0.out, HU.out.kept Hb0.out⟩
  case round =>
    obtain ⟨i, xs, hi, rfl, hown, hos, hch, hun⟩ := hrel
    clear Hr0 Hos0 Hb0
    by_cases hlt : i < m
    · obtain ⟨e0, q1, q2⟩ := HS.out.szv (i := i) (by rw [HM.out]; omega)
      obtain ⟨e1, r1, r2⟩ := HS.out.szv (i := i + 1) (by rw [HM.out]; omega)
      clear e0 e1
      have hzr := hch.out.size
      have HLr := HL.out.chg hch.out hg OG.out
      have k0 := HLr i hlt 0 (by omega)
      have k1 := HLr i hlt 1 (by omega)
      have k2 := HLr i hlt 2 (by omega)
      have k3 := HLr i hlt 3 (by omega)
      rw [Nat.add_zero] at k0
      simp only [layC, List.getElem?_cons_zero, List.getElem?_cons_succ] at k0 k1 k2 k3
      clear HLr
      obtain ⟨al, cl', rfl, hcl, hal⟩ := ownsRow_form hown.out
      obtain ⟨gl, rfl, _, hgl, hcell, _⟩ := ownsRow_at hown.out (i := i) (by omega)
      have hov := hos.out.2 i (by simp [vals])
      rw [vals_last] at hov
      obtain ⟨ai, ci, hxe, _, _⟩ := ownsRow_form hov
      have hln := Hlen.out i
      have hxs : xs[i]? = some (.slice ai (szN s i) ci) := by
        have h3 : i < xs.length := by rw [hos.out.1]; simp [vals]
        rw [List.getElem?_eq_getElem h3] at hxe ⊢
        rw [hln] at hxe
        simpa using hxe
      rw [hxs] at hcell
      have Hai : Hid (Rd wr .i64 ai (szN s i) (val s p x i)) := Lib.hid (by
        rw [hxe, hln] at hov
        have := Ow.rd (n := szN s i) (a := ai) (c := ci) hov (by omega)
        exact this)
      have Hao : Hid (∀ y, ai = some y → ¬ UC u y.block) := Lib.hid (fun y hy hk => by
        rw [hxe] at hov
        have h5 := (World.ownsRow.lt hov y.block (by rw [hy]; rfl)).1
        have := hUlt.out _ hk
        omega)
      have HPr : Hid (Rd wr .i64 (some ⟨b, o, none⟩) np p) := Lib.hid (HP.out.chg hch.out (fun y hy => by cases hy; exact OB.out))
      have Hf := fst_succ s i
      have Hfm := fst_mono s (i := i + 1) (j := m) (by omega)
      rw [Hnp.out, Hf] at Hfm
      clear hov hxe hxs hln Hf
      have HSm := Lib.hid (fun w' (hb : Below wr.heap.size wr w') => sums_any u (cntV n s p x i) (szN s (i + 1)) (szN s i) (szN s (i + 1) * szN s i) (some ⟨b, o + fst s i, none⟩) (szN s (i + 1) * szN s i) (lA s p i) (some ⟨b, o + fst s i + szN s (i + 1) * szN s i, none⟩) (szN s (i + 1)) (lB s p i) ai ci (val s p x i) w'
        (by have h7 := (HPr.out.kept hb).cut (fst s i) (fst s i + szN s (i + 1) * szN s i) (by omega) (by omega) (a' := some ⟨b, o + fst s i, none⟩) (fun _ b' o' e => by cases e; rfl)
            rw [Nat.add_sub_cancel_left] at h7; exact h7)
        (by have h7 := (HPr.out.kept hb).cut (fst s i + szN s (i + 1) * szN s i) (fst s i + szN s (i + 1) * szN s i + szN s (i + 1)) (by omega) (by omega) (a' := some ⟨b, o + fst s i + szN s (i + 1) * szN s i, none⟩) (fun _ b' o' e => by cases e; simp [Nat.add_assoc])
            rw [Nat.add_sub_cancel_left] at h7; exact h7)
        (Hai.out.kept hb) rfl r2 q2 (fun y hy => by cases hy; exact OB.out) (fun y hy => by cases hy; exact OB.out) Hao.out (A64_sub IP.out _ _) (A64_sub IP.out _ _) (A64_val IX.out _) (hun.out.kept hb))
      have Hvs : Hid (sumsO (szN s i) (lA s p i) (lB s p i) (val s p x i) (szN s (i + 1)) = vsum s p x i) := Lib.hid rfl
      have Hvl : Hid ((vsum s p x i).length = szN s (i + 1)) := Lib.hid (by simp [vsum, sumsO])
      have Hval : Hid (val s p x (i + 1) = if i + 1 < m then relu ((vsum s p x i).map near32) else (vsum s p x i).map near32) := Lib.hid (by
        simp only [val, vsum, HM.out]
        by_cases h8 : i + 1 < m
        · rw [if_pos h8, if_pos (by omega)]
        · rw [if_neg h8, if_neg (by omega)])
      rw [Huv.out, Hvs.out] at HSm
      clear Hvs
      generalize szN s (i + 1) * szN s i = pq at *
      generalize szN s i = q at *
      generalize szN s (i + 1) = r at *
      generalize fst s i = f at *
      go_wp2
      go_region_with ((refine (HSm.out _ (by (repeat first | assumption | exact Below.refl _ _ | refine Below.drew ?_ | refine Below.drewN ?_ _ | refine Below.alloc ?_ (by (first | omega | (simp; done) | (simp; omega))) _ | refine Below.setCell ?_ (by (first | omega | (simp; done) | (simp; omega))) _ | refine Below.trans ?_ (Below.mono (by assumption) (by (first | omega | (simp; done) | (simp; omega))))))).mono ?_; rintro e w5 ⟨v5, rfl, ho5, hc5, hu5⟩))
      all_goals
        have Hc5 : Hid (Chg (UC u) wr w5) := Lib.hid ((Chg.of_below (by (repeat first | assumption | exact Below.refl _ _ | refine Below.drew ?_ | refine Below.drewN ?_ _ | refine Below.alloc ?_ (by (first | omega | (simp; done) | (simp; omega))) _ | refine Below.setCell ?_ (by (first | omega | (simp; done) | (simp; omega))) _ | refine Below.trans ?_ (Below.mono (by assumption) (by (first | omega | (simp; done) | (simp; omega))))))).trans hc5)
        have Hown5 := Lib.hid (ownsRow_chg (ownsRow_kept hown.out (by (repeat first | assumption | exact Below.refl _ _ | refine Below.drew ?_ | refine Below.drewN ?_ _ | refine Below.alloc ?_ (by (first | omega | (simp; done) | (simp; omega))) _ | refine Below.setCell ?_ (by (first | omega | (simp; done) | (simp; omega))) _ | refine Below.trans ?_ (Below.mono (by assumption) (by (first | omega | (simp; done) | (simp; omega))))))) hc5 (fun k hk => hUlt.out k hk))
        have Hos5 := Lib.hid ((hos.out.kept (by (repeat first | assumption | exact Below.refl _ _ | refine Below.drew ?_ | refine Below.drewN ?_ _ | refine Below.alloc ?_ (by (first | omega | (simp; done) | (simp; omega))) _ | refine Below.setCell ?_ (by (first | omega | (simp; done) | (simp; omega))) _ | refine Below.trans ?_ (Below.mono (by assumption) (by (first | omega | (simp; done) | (simp; omega))))))).chg hc5 (fun k hk => hUlt.out k hk))
        have Hch5 := Lib.hid (hch.out.trans Hc5.out)
        have Hu5 := Lib.hid hu5
        have hl5 : ((vsum s p x i).map near32).length = r := by rw [List.length_map]; exact Hvl.out
        unfold Ow at ho5
        rw [hl5] at ho5
        obtain ⟨av, cv, rfl, hcv, hav⟩ := ownsRow_form ho5
        obtain ⟨gv, rfl, hgvB, hgv, _, _⟩ := ownsRow_at ho5 (i := 0) (by omega)
        have hgvr : wr.heap.size ≤ gv := by simp at hgvB; omega
        have ho5' : w5.ownsRow wr.heap.size 23 1 (.slice (some ⟨gv, 0, none⟩) r cv) r (((vsum s p x i).map near32).map (Value.int .i64)) := ownsRow_mono ho5 (by simp)
        generalize hy : (vsum s p x i).map near32 = y at *
        have Ho5 := Lib.hid ho5'
        have hz5 := Hc5.out.size
        clear ho5 ho5' hc5 hu5 hav hgvB hy HSm k0 k1 k2 k3 hcell
        by_cases h8 : i + 1 < m
        · rw [if_pos h8] at Hval
          go_wp2
          go_loopw [36] (fun j wi => ∃ t : Nat, t ≤ r ∧ j = .int .i64 t ∧ Hid (wi.ownsRow wr.heap.size 23 1 (.slice (some ⟨gv, 0, none⟩) r cv) r ((relu (y.take t) ++ y.drop t).map (Value.int .i64))) ∧ Hid (Chg (fun k => k = gv) w5 wi)) (fun j _ => r - (intOf j).toNat)
          case atStart => exact ⟨0, Nat.zero_le _, rfl, Lib.hid (by simpa [relu] using Ho5.out), Chg.refl _ _⟩
          case round =>
            obtain ⟨t, ht, rfl, how, hcw⟩ := hrel
            by_cases hlt2 : t < r
            · obtain ⟨gv', e', _, hgvl, hcv1, hfv⟩ := ownsRow_at how.out (i := t) hlt2
              cases e'
              rw [List.getElem?_map, relu_at y t (by omega)] at hcv1
              simp only [Option.map_some] at hcv1
              have Hset := Lib.hid (ownsRow_set how.out hlt2 (.int .i64 (relu1 (y[t]?.getD 0))))
              rw [set_map, relu_step y t (by omega)] at Hset
              have hcs := Lib.hid (hcw.out.setCell_in ⟨gv, t, none⟩ (show gv = gv from rfl) (.int .i64 (relu1 (y[t]?.getD 0))))
              by_cases h9 : y[t]?.getD 0 < 0
              · have h10 : relu1 (y[t]?.getD 0) = 0 := by unfold relu1; rw [if_pos h9]
                rw [h10] at Hset hcs
                clear h10
                generalize y[t]?.getD 0 = z at *
                go_wp2
                go_roundw
                case rel => exact ⟨t + 1, by omega, by go_num, Hset.out, hcs.out⟩
                case measure => simp [intOf]; omega
              · have h10 : relu1 (y[t]?.getD 0) = y[t]?.getD 0 := by unfold relu1; rw [if_neg h9]
                rw [h10] at Hset hcs
                clear h10
                generalize y[t]?.getD 0 = z at *
                go_wp2
                go_roundw
                case rel => exact ⟨t + 1, by omega, by go_num, Hset.out, hcs.out⟩
                case measure => simp [intOf]; omega
            · obtain rfl : t = r := by omega
              have Hfin : Hid (relu (y.take t) ++ y.drop t = relu y) := Lib.hid (by rw [List.take_of_length_le (by omega), List.drop_eq_nil_of_le (by omega), List.append_nil])
              have HcW := Lib.hid (Hc5.out.drop hcw.out (fun i hi => by right; omega))
              have Hown7 := Lib.hid (ownsRow_chg hown.out HcW.out (fun k hk => hUlt.out k hk))
              have Hos7 := Lib.hid (hos.out.chg HcW.out (fun k hk => hUlt.out k hk))
              have Hch7 := Lib.hid (hch.out.trans HcW.out)
              have Hu7 := Lib.hid (Hu5.out.chg hcw.out (fun k hk e => by have := hUlt.out k hk; omega))
              have Hov7 : Hid (Ow wr w.heap.size 23 .i64 (.slice (some ⟨gv, 0, none⟩) t cv) (val s p x (i + 1))) := Lib.hid (by rw [Hval.out]; rw [← Hfin.out]; exact ownsRow_mono (Ow.of (n := t) how.out) hzr)
              have hz7 := Hch7.out.size
              go_wp2_with (at_builtin; refine wpl_app1 eFss rfl _ _ rfl w.heap.size _ (i + 1) _ rfl (Hown7.out.alloc _) wr.heap.size (.slice (some ⟨gv, 0, none⟩) t cv) rfl (World.cell?_alloc_at _ _ _ _ rfl) rfl ?c3 ?c4 ?c5 ?_)
              case c3 => unfold maxLen; omega
              case c4 => omega
              case c5 => simp; omega
              intro v9 w9 hown9 hg9
              have Hch9 := Lib.hid (Chg.grownOf (Hch7.out.alloc _) (Hown7.out.alloc _) hg9 (Nat.le_refl _))
              have Hu9 := Lib.hid (Un.grown (Hu7.out.kept ((Below.refl _ _).alloc (Nat.le_refl _) _)) (Hown7.out.alloc _) hg9 (fun k hk => hUlt.out k hk))
              have Hos9 := Lib.hid (((Hos7.out.snoc Hov7.out).kept ((Below.refl wr.heap.size wr).alloc (Nat.le_refl _) (.cells #[.slice (some ⟨gv, 0, none⟩) t cv] 22))).grown (Hown7.out.alloc _) hg9 (by decide))
              have Hown9 := Lib.hid hown9
              clear hown9 hg9
              go_wp2
              go_roundw
              case rel => exact ⟨i + 1, _, by omega, by go_num, Hown9.out, Lib.hid (by rw [vals_succ s p x (i + 1)]; exact Hos9.out), Hch9.out, Lib.hid (by simp only [cntV]; exact Hu9.out)⟩
              case measure => simp [intOf]; omega
        · rw [if_neg h8] at Hval
          have Hown7 := Lib.hid (Hown5.out)
          have Hos7 := Lib.hid (Hos5.out)
          have Hch7 := Lib.hid (Hch5.out)
          have Hu7 := Lib.hid (Hu5.out)
          have Hov7 : Hid (Ow w5 w.heap.size 23 .i64 (.slice (some ⟨gv, 0, none⟩) r cv) (val s p x (i + 1))) := Lib.hid (by rw [Hval.out]; exact ownsRow_mono (Ow.of (n := r) Ho5.out) hzr)
          have hz7 := Hch7.out.size
          go_wp2_with (at_builtin; refine wpl_app1 eFss rfl _ _ rfl w.heap.size _ (i + 1) _ rfl (Hown7.out.alloc _) w5.heap.size (.slice (some ⟨gv, 0, none⟩) r cv) rfl (World.cell?_alloc_at _ _ _ _ rfl) rfl ?c3 ?c4 ?c5 ?_)
          case c3 => unfold maxLen; omega
          case c4 => omega
          case c5 => simp; omega
          intro v9 w9 hown9 hg9
          have Hch9 := Lib.hid (Chg.grownOf (Hch7.out.alloc _) (Hown7.out.alloc _) hg9 (Nat.le_refl _))
          have Hu9 := Lib.hid (Un.grown (Hu7.out.kept ((Below.refl _ _).alloc (Nat.le_refl _) _)) (Hown7.out.alloc _) hg9 (fun k hk => hUlt.out k hk))
          have Hos9 := Lib.hid (((Hos7.out.snoc Hov7.out).kept ((Below.refl w5.heap.size w5).alloc (Nat.le_refl _) (.cells #[.slice (some ⟨gv, 0, none⟩) r cv] 22))).grown (Hown7.out.alloc _) hg9 (by decide))
          have Hown9 := Lib.hid hown9
          clear hown9 hg9
          go_wp2
          go_roundw
          case rel => exact ⟨i + 1, _, by omega, by go_num, Hown9.out, Lib.hid (by rw [vals_succ s p x (i + 1)]; exact Hos9.out), Hch9.out, Lib.hid (by simp only [cntV]; exact Hu9.out)⟩
          case measure => simp [intOf]; omega
    · obtain rfl : i = m := by omega
      go_wp2
      go_ret
      exact ⟨_, xs, rfl, hown.out, hos.out, hch.out, hun.out⟩
end Go.Proofs.Ytkmfdggodinjaaa
