/-
  Layer mlp: batches whose examples go with the net.
-/
import Derived.Test.YthingodgjeicpaaBatB
namespace Go.Proofs.Ythingodgjeicpaa
open Go.RowKit
set_option linter.unusedVariables false
set_option linter.unusedSimpArgs false

set_option maxHeartbeats 6400000 in
set_option maxRecDepth 100000 in
theorem Batch_ok (aS : Option Addr) (ns cS : Nat) (s : List Int) (ap : Option Addr) (np cp : Nat) (bE oE cE K : Nat) (L : List ExD) (m : Nat) (w : World) (hs : Rd w .i64 aS ns s) (hok : okS s) (hm : s.length = m + 1) (hnp : np ≤ 140737488351232) (hL : ExsAt w bE oE L) (hbE : bE < w.heap.size) (hK : L.length = K) (hK0 : 0 < K) (hK1 : K ≤ 64) (hR : ExR w L) (p : List Int) (hp : Rd w .i64 ap np p) (hcp : np ≤ cp) (hcm : cp ≤ 9223372036854775807) (ip : A64 p) (hfit : ∀ j, j < K → Fit s m np (exAt L j)) :
    Calls Try.prog 12 #[.pointer none, .int .i64 1, .slice aS ns cS, .slice ap np cp, .slice (some ⟨bE, oE, none⟩) K cE] w fun e w' => ∃ v, e = .returned (.tuple #[v, .int .i64 (clampI (meanI (fsK s p m L K) K)), .int .i64 0]) ∧ Ow w' w.heap.size 38 .i64 v (mns (gsK s p m L K) K np) ∧ Below w.heap.size w w' := by
  have hns : ns = m + 1 := by rw [← hs.1]; exact hm
  have hm15 : 1 ≤ m ∧ m ≤ 5 := by have := hok.1; have := hok.2.1; omega
  obtain ⟨hm1, hm5⟩ := hm15
  have HCo := Lib.hid (fun w' (hb' : Below w.heap.size w w') => mCount_any aS ns cS s w' (hs.kept hb'))
  have hce : cnt s = ((cntN s : Int), 0) := by unfold cnt; rw [if_pos hok]
  rw [hce] at HCo
  have HSh := Lib.hid (fun w' (hb' : Below w.heap.size w w') => shaped_any aS ns cS s ap np cp w' (hs.kept hb') hnp)
  have Hof := Lib.hid (fun w => of_sq w)
  obtain ⟨bs, os, rfl, hbs, hcs⟩ := hs.at (i := 0) (by omega)
  obtain ⟨bs', os', e', _, hcm'⟩ := hs.at (i := m) (by omega)
  cases e'
  have hs0 := hok.szv (i := 0) (by rw [hm]; omega)
  have hsm := hok.szv (i := m) (by rw [hm]; omega)
  rw [hs0.1, Nat.add_zero] at hcs
  rw [hsm.1] at hcm'
  subst hns
  have HE := Lib.hid (fun w' (hb' : Below w.heap.size w w') => hL.kept hbE hb')
  have hpl : p.length = np := hp.1
  have hnc : np = cntN s := (hfit 0 hK0).1
  have hq : np ≤ 30000 := by have := cnt_bd hok; omega
  have hsz0 := hs0.2
  have hszm := hsm.2
  have HF : Hid (∀ j, j < K → (exAt L j).nx = szN s 0 ∧ (exAt L j).nt = szN s m) := Lib.hid (fun j hj => ⟨(hfit j hj).2.1, (hfit j hj).2.2⟩)
  have HG : Hid (∀ j, j < K → (gradS s p (exAt L j).x (exAt L j).t m).length = np ∧ ∀ w', Below w.heap.size w w' → Calls Try.prog 14 #[.pointer none, .int .i64 1, .slice (some ⟨bs, os, none⟩) (m + 1) cS, .slice ap np cp, .agg #[.slice (exAt L j).ax (szN s 0) (exAt L j).cx, .slice (exAt L j).aT (szN s m) (exAt L j).ct]] w' fun e w'' => ∃ v, e = .returned (.tuple #[v, .int .i64 (sqFar (val s p (exAt L j).x m) (exAt L j).t (szN s m)), .int .i64 0]) ∧ Ow w'' w'.heap.size 38 .i64 v (gradS s p (exAt L j).x (exAt L j).t m) ∧ Below w'.heap.size w' w'') := Lib.hid (fun j hj => by
    obtain ⟨_, fx, ft⟩ := hfit j hj
    obtain ⟨rx, rt⟩ := hR j (by omega)
    have rx1 := rx.rd (by omega)
    have rt1 := rt.rd (by omega)
    have hn : NetOk s p (exAt L j).x m := ⟨hok, hm, by rw [hpl]; exact hnc, by rw [rx1.1, fx], ip, rx.i⟩
    refine ⟨by rw [gradS_len hn]; exact hpl, fun w' hb' => ?_⟩
    have h := Gradient_ok (some ⟨bs, os, none⟩) (m + 1) cS s ap np cp p (exAt L j).ax (exAt L j).nx (exAt L j).cx (exAt L j).x (exAt L j).aT (exAt L j).nt (exAt L j).ct (exAt L j).t m w' hn (hs.kept hb') (hp.kept hb') (rx1.kept hb') (rt1.kept hb') hcp hcm rx.nil (by rw [rt1.1, ft]) rt.i
    rw [fx, ft] at h
    exact h)
  have HK := Lib.hid hK
  have hshp : shp s np = 0 := by unfold shp; rw [if_pos hok, if_pos hnc]
  rw [hshp] at HSh
  have eN : (38 : TypeId) ≠ 26 := by decide
  have eN2 : (26 : TypeId) ≠ 38 := by decide
  clear hs hok hL hR hfit hs0 hsm hce hK hp ip hshp hnc hpl
  have Hfs : Hid (∀ o, fsK s p m L (o + 1) = fsK s p m L o ++ [sqFar (val s p (exAt L o).x m) (exAt L o).t (szN s m)]) := Lib.hid (fun o => fsK_succ s p m L o)
  have Hgs : Hid (∀ o, gsK s p m L (o + 1) = gsK s p m L o ++ [gradS s p (exAt L o).x (exAt L o).t m]) := Lib.hid (fun o => gsK_succ s p m L o)
  generalize szN s 0 = q0 at *
  generalize szN s m = qm at *
  have hK0i : ¬ ((K : Int) < 1) := by omega
  have hK1i : ¬ ((64 : Int) < (K : Int)) := by omega
  go_enter Try.func12, Try.ntmps12
  go_wp2_with first
    | ((with_reducible refine (HCo.out _ (by (repeat first | assumption | exact Below.refl _ _ | refine Below.drew ?_ | refine Below.drewN ?_ _ | refine Below.alloc ?_ (by (first | omega | (simp; done) | (simp; omega))) _ | refine Below.setCell ?_ (by (first | omega | (simp; done) | (simp; omega))) _ | refine Below.trans ?_ (Below.mono (by assumption) (by (first | omega | (simp; done) | (simp; omega))))))).mono ?_); rintro e w1 ⟨rfl, rfl⟩)
    | ((with_reducible refine (Hof.out _).mono ?_); rintro e w1 ⟨rfl, rfl⟩)
    | fail
  have hwm : IntKind.i64.wrap (m : Int) = (m : Int) := by rw [IntKind.wrap_i64]; omega
  have hmlt : m < m + 1 := by omega
  have hm0i : (0 : Int) ≤ (m : Int) := by omega
  have hm1i : (m : Int) < (m : Int) + 1 := by omega
  have hwm2 : IntKind.i64.wrap ((m : Int) + 1 - 1) = (m : Int) := by rw [IntKind.wrap_i64]; omega
  go_loopw [53] (fun j wr => ∃ i : Nat, i ≤ K ∧ j = .int .i64 i ∧ Hid (Below w.heap.size w wr)) (fun j _ => K - (intOf j).toNat)
  case atStart => exact ⟨0, Nat.zero_le _, rfl, Lib.hid (by (repeat first | assumption | exact Below.refl _ _ | refine Below.drew ?_ | refine Below.drewN ?_ _ | refine Below.alloc ?_ (by (first | omega | (simp; done) | (simp; omega))) _ | refine Below.setCell ?_ (by (first | omega | (simp; done) | (simp; omega))) _ | refine Below.trans ?_ (Below.mono (by assumption) (by (first | omega | (simp; done) | (simp; omega))))))⟩
  case round =>
    obtain ⟨i, hi, rfl, hbb⟩ := hrel
    by_cases hlt : i < K
    · have hzr := hbb.out.size
      have hi0 : (0 : Int) ≤ (i : Int) := by omega
      have hiK : (i : Int) < (K : Int) := by omega
      have hbsr : bs < wr.heap.size := by omega
      obtain ⟨c0, c1⟩ := HE.out _ hbb.out i (by rw [HK.out]; omega)
      have d0 : wr.cell? ⟨bs, os, none⟩ = some (.int .i64 (q0 : Int)) := (hbb.out.cell (p := ⟨bs, os, none⟩) hbs).trans hcs
      have dm : wr.cell? ⟨bs, os + m, none⟩ = some (.int .i64 (qm : Int)) := (hbb.out.cell (p := ⟨bs, os + m, none⟩) hbs).trans hcm'
      obtain ⟨fx, ft⟩ := HF.out i hlt
      rw [fx] at c0
      rw [ft] at c1
      clear fx ft
      generalize (exAt L i).ax = ax at *
      generalize (exAt L i).cx = cx at *
      generalize (exAt L i).aT = aT at *
      generalize (exAt L i).ct = ct at *
      go_wp2
      go_region_held3 (fun w' => w'.cell? ⟨wr.heap.size, 0, none⟩ = some (.slice ax q0 cx) ∧ w'.cell? ⟨wr.heap.size, 1, none⟩ = some (.slice aT qm ct) ∧ w'.cell? ⟨bs, os, none⟩ = some (.int .i64 (q0 : Int)) ∧ w'.cell? ⟨bs, os + m, none⟩ = some (.int .i64 (qm : Int)))
        (first | assumption | go_keep)
        (first
          | (go_at_call 22; refine (HSh.out _ (by (repeat first | assumption | exact Below.refl _ _ | refine Below.drew ?_ | refine Below.drewN ?_ _ | refine Below.alloc ?_ (by (first | omega | (simp; done) | (simp; omega))) _ | refine Below.setCell ?_ (by (first | omega | (simp; done) | (simp; omega))) _ | refine Below.trans ?_ (Below.mono (by assumption) (by (first | omega | (simp; done) | (simp; omega))))))).mono ?_; rintro e w1 ⟨rfl, rfl⟩))
      go_wp2
      go_roundw
      case rel => exact ⟨i + 1, by omega, by go_num, Lib.hid (by (repeat first | assumption | exact Below.refl _ _ | refine Below.drew ?_ | refine Below.drewN ?_ _ | refine Below.alloc ?_ (by (first | omega | (simp; done) | (simp; omega))) _ | refine Below.setCell ?_ (by (first | omega | (simp; done) | (simp; omega))) _ | refine Below.trans ?_ (Below.mono (by assumption) (by (first | omega | (simp; done) | (simp; omega))))))⟩
      case measure => simp [intOf]; omega
    · obtain rfl : i = K := by omega
      have HbA := Lib.hid hbb.out
      rename World => wA
      clear hbb
      have hzA := HbA.out.size
      go_wp2
      go_loopw [19, 20, 85] (fun lv fv j wr => ∃ (o : Nat) (xs : List Value), o ≤ i ∧ j = .int .i64 o ∧ Hid (wr.ownsRow w.heap.size 26 1 lv o xs) ∧ Hid (OwS wr w.heap.size 38 .i64 xs (gsK s p m L o)) ∧ Hid (NeS fv xs o) ∧ Hid (wr.ownsRow w.heap.size 38 1 fv o ((fsK s p m L o).map (Value.int .i64))) ∧ Hid (Below w.heap.size w wr)) (fun _ _ j _ => i - (intOf j).toNat)
      case atStart => exact ⟨0, [], Nat.zero_le _, rfl, Lib.hid ⟨rfl, .inl ⟨rfl, rfl⟩⟩, Lib.hid ⟨rfl, fun j hj => absurd hj (by simp [gsK])⟩, Lib.hid (fun j hj => absurd hj (by omega)), Lib.hid ⟨rfl, .inl ⟨rfl, rfl⟩⟩, HbA.out⟩
      case round =>
        obtain ⟨o, xs, ho, rfl, hown, hos, hne, hfar, hbb⟩ := hrel
        have hzr := hbb.out.size
        by_cases hlt2 : o < i
        · have ho0 : (0 : Int) ≤ (o : Int) := by omega
          have hoK : (o : Int) < (i : Int) := by omega
          obtain ⟨c0, c1⟩ := HE.out _ hbb.out o (by rw [HK.out]; omega)
          obtain ⟨fx, ft⟩ := HF.out o hlt2
          rw [fx] at c0
          rw [ft] at c1
          clear fx ft
          have HGo := Lib.hid ((HG.out o hlt2).2)
          have Hgs1 := Lib.hid (Hgs.out o)
          have Hfs1 := Lib.hid (Hfs.out o)
          generalize (exAt L o).ax = ax at *
          generalize (exAt L o).cx = cx at *
          generalize (exAt L o).aT = aT at *
          generalize (exAt L o).ct = ct at *
          generalize gradS s p (exAt L o).x (exAt L o).t m = G at *
          generalize sqFar (val s p (exAt L o).x m) (exAt L o).t qm = F at *
          go_wp2_with fail
          ((with_reducible refine (HGo.out _ (by have := hbb.out; (repeat first | assumption | exact Below.refl _ _ | refine Below.drew ?_ | refine Below.drewN ?_ _ | refine Below.alloc ?_ (by (first | omega | (simp; done) | (simp; omega))) _ | refine Below.setCell ?_ (by (first | omega | (simp; done) | (simp; omega))) _ | refine Below.trans ?_ (Below.mono (by assumption) (by (first | omega | (simp; done) | (simp; omega))))))).mono ?_); rintro e w2 ⟨v2, rfl, ho2, hb2⟩)
          have Hbr : Hid (Below wr.heap.size wr w2) := Lib.hid (by (repeat first | assumption | exact Below.refl _ _ | refine Below.drew ?_ | refine Below.drewN ?_ _ | refine Below.alloc ?_ (by (first | omega | (simp; done) | (simp; omega))) _ | refine Below.setCell ?_ (by (first | omega | (simp; done) | (simp; omega))) _ | refine Below.trans ?_ (Below.mono (by assumption) (by (first | omega | (simp; done) | (simp; omega))))))
          have Hb2 : Hid (Below w.heap.size w w2) := Lib.hid (hbb.out.trans (Hbr.out.mono hzr))
          have hz2 := Hb2.out.size
          have hown2 := Lib.hid (ownsRow_kept hown.out Hbr.out)
          have hos2 := Lib.hid (hos.out.kept Hbr.out)
          have hfar2 := Lib.hid (ownsRow_kept hfar.out Hbr.out)
          have hne2 : Hid (v2.ownBlock = none ∨ v2.ownBlock ≠ u20.ownBlock) := Lib.hid (by
            cases hv : v2.ownBlock with
            | none => exact .inl rfl
            | some g =>
              right
              intro e
              have k1 := (World.ownsRow.lt ho2 g hv).1
              have k2 := (World.ownsRow.lt hfar.out g e.symm).2
              simp at k1
              omega)
          obtain ⟨a2, c2, rfl, _, _⟩ := ownsRow_form ho2
          have ho2' := Lib.hid (Ow.mono ho2 (show w.heap.size ≤ _ by simp; omega))
          have hos3 := Lib.hid (hos2.out.snoc ho2'.out)
          rw [← Hgs1.out] at hos3
          have hne3 := Lib.hid (hne.out.snoc (by rw [hos2.out.1, gsK_len]) hne2.out)
          clear hb2 ho2 hown hos hfar hne hos2 hne2 ho2'
          go_wp2_with (at_builtin; refine wpl_app1 eFss rfl _ _ rfl w.heap.size _ o _ rfl (hown2.out.alloc _) w2.heap.size (.slice a2 G.length c2) rfl (World.cell?_alloc_at _ _ _ _ rfl) rfl ?c3 ?c4 ?c5 ?_)
          case c3 => unfold maxLen; omega
          case c4 => omega
          case c5 => simp; omega
          intro v3 w3 hown3 hg3
          have Hb3 := Lib.hid (Below.grownOf (Hb2.out.alloc hz2 _) (hown2.out.alloc _) hg3 (by simp; omega))
          have hz3 := Hb3.out.size
          have hos4 := Lib.hid (OwS.grown (hos3.out.kept (below_alloc _ _)) (hown2.out.alloc _) hg3 eN)
          have hfar3 := Lib.hid (World.ownsRow.kept (hfar2.out.alloc (.cells #[.slice a2 G.length c2] 26)) hg3 (own_ne (hfar2.out.alloc (.cells #[.slice a2 G.length c2] 26)) (hown2.out.alloc (.cells #[.slice a2 G.length c2] 26)) eN))
          have Hown3 := Lib.hid hown3
          clear hown3 hg3 hown2 hfar2 hos3
          go_wp2_with (at_builtin; refine wpl_app1L eFs rfl _ _ rfl w.heap.size _ o _ rfl (hfar3.out.alloc _) w3.heap.size (.int .i64 F) rfl (World.cell?_alloc_at _ _ _ _ rfl) rfl ?d3 ?d4 ?d5 ?_)
          case d3 => unfold maxLen; omega
          case d4 => omega
          case d5 => simp; omega
          intro g4 c4 w4 hfar4 hg4 hl4
          have Hb4 := Lib.hid (Below.grownOf (Hb3.out.alloc hz3 _) (hfar3.out.alloc _) hg4 (by simp; omega))
          have hn3' : NeS u20 (xs ++ [.slice a2 G.length c2]) (gsK s p m L (o + 1)).length := by rw [gsK_len]; exact hne3.out
          have Hos5 := Lib.hid (OwS.far (hos4.out.kept (below_alloc _ _)) hn3' hg4)
          have hl4' : u20.ownBlock = some g4 ∨ g4 = (w3.alloc (.cells #[.int .i64 F] 38)).heap.size := by simpa using hl4
          have Hne5 := Lib.hid (NeS.grown (n := o + 1) (c := c4) (hos4.out.kept (below_alloc _ _)) hn3' hl4')
          rw [gsK_len] at Hne5
          have Hown5 := Lib.hid (World.ownsRow.kept (Hown3.out.alloc (.cells #[.int .i64 F] 38)) hg4 (own_ne (Hown3.out.alloc (.cells #[.int .i64 F] 38)) (hfar3.out.alloc (.cells #[.int .i64 F] 38)) eN2))
          have Hfar5 : Hid (w4.ownsRow w.heap.size 38 1 (.slice (some ⟨g4, 0, none⟩) (o + 1) c4) (o + 1) ((fsK s p m L (o + 1)).map (Value.int .i64))) := Lib.hid (by rw [Hfs1.out]; simpa using hfar4)
          clear hfar4 hg4 hl4 hl4' hn3' hos4 hne3 hfar3 Hown3
          go_wp2
          go_roundw
          case rel => exact ⟨o + 1, _, by omega, by go_num, Hown5, Hos5, Hne5, Hfar5, Hb4⟩
          case measure => simp [intOf]; omega
        · obtain rfl : o = i := by omega
          obtain ⟨aL, cL, rfl, _, _⟩ := ownsRow_form hown.out
          obtain ⟨aF, cF, rfl, _, _⟩ := ownsRow_form hfar.out
          have HRS := Lib.hid (rdS_of (q := np) hown.out hos.out (gsK_len s p m L o) (fun j hj => by rw [gsK_at s p m L hj]; exact (HG.out j hj).1) (by omega))
          have HRf := Lib.hid (Ow.rd (n := o) (a := aF) (c := cF) (Ow.of hfar.out) (by omega))
          have HMs := Lib.hid (Means_any none 0 w.heap.size aL o np cL (gsK s p m L o) wr HRS.out hK0 hK1 (by omega) (A64_gsK s p m L o) (Un.none _ _) (fun b h => by cases h) hzr)
          have HMe := Lib.hid (fun w' (hb : Below wr.heap.size wr w') => Mean_any none 0 o cF aF (fsK s p m L o) w' (HRf.out.kept hb) hK0 hK1 (A64_fsK s p m L o) (Un.none _ _))
          rw [show uV none = .pointer none from rfl] at HMs HMe
          clear hown hos hne hfar HRS HRf
          go_wp2_with fail
          ((with_reducible refine (HMs.out).mono ?_); rintro e w5 ⟨v5, rfl, ho5, hc5, _⟩)
          have Hb5 : Hid (Below wr.heap.size wr w5) := Lib.hid (hc5.below (Nat.le_refl _) (fun k hk => by cases hk))
          have Ho5 := Lib.hid ho5
          clear hc5 ho5
          go_wp2_with fail
          ((with_reducible refine (HMe.out _ Hb5.out).mono ?_); rintro e w6 ⟨rfl, hc6, _⟩)
          have hb6 := hc6.below (Nat.le_refl _) (fun k hk => by cases hk)
          go_wp2
          go_ret3
          exact ⟨v5, rfl, (Ho5.out.kept hb6).mono hzr, hbb.out.trans (Hb5.out.mono hzr |>.trans (hb6.mono (Nat.le_trans hzr Hb5.out.size)))⟩
end Go.Proofs.Ythingodgjeicpaa
