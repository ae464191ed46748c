/-
  Layer mlp: parameters taken apart into matrices and offsets.
-/
import Derived.Test.YtdamenbpgkhiiaaMlpJ
namespace Go.Proofs.Ytdamenbpgkhiiaa
open Go.RowKit
set_option linter.unusedVariables false
set_option linter.unusedSimpArgs false

theorem eMs : Elem Try.prog 79 86 3 40 (.agg #[.int .i64 0, .int .i64 0, .slice none 0 0]) := ⟨Try.underlying79, by kernel_rfl, rfl, by omega⟩

def lAs (s p : List Int) (k : Nat) : List (List Int) := (List.range k).map (lA s p)
def lBs (s p : List Int) (k : Nat) : List (List Int) := (List.range k).map (lB s p)
theorem lAs_succ (s p : List Int) (k : Nat) : lAs s p (k + 1) = lAs s p k ++ [lA s p k] := by simp [lAs, List.range_succ]
theorem lBs_succ (s p : List Int) (k : Nat) : lBs s p (k + 1) = lBs s p k ++ [lB s p k] := by simp [lBs, List.range_succ]
/-- The cells of k matrices, of which the lists lie at zs. -/
def MatX (s : List Int) (xs zs : List Value) (k : Nat) : Prop := xs.length = k * 3 ∧ zs.length = k ∧ ∀ j, j < k → xs[j * 3]? = some (.int .i64 (szN s (j + 1))) ∧ xs[j * 3 + 1]? = some (.int .i64 (szN s j)) ∧ xs[j * 3 + 2]? = zs[j]?
theorem MatX.snoc {s : List Int} {xs zs : List Value} {k : Nat} (h : MatX s xs zs k) (v : Value) : MatX s (xs ++ [.int .i64 (szN s (k + 1)), .int .i64 (szN s k), v]) (zs ++ [v]) (k + 1) := by
  obtain ⟨h1, h2, h3⟩ := h
  refine ⟨by simp [h1]; omega, by simp [h2], fun j hj => ?_⟩
  by_cases e : j < k
  · obtain ⟨a, b, c⟩ := h3 j e
    rw [List.getElem?_append_left (by omega), List.getElem?_append_left (by omega), List.getElem?_append_left (by omega), List.getElem?_append_left (by omega)]
    exact ⟨a, b, c⟩
  · obtain rfl : j = k := by omega
    rw [List.getElem?_append_right (by omega), List.getElem?_append_right (by omega), List.getElem?_append_right (by omega), List.getElem?_append_right (by omega), h1, h2]
    simp
theorem kept_size {w W w6 : World} {B B' : Nat} {E E' : TypeId} {vP v : Value} {nP n s1 s2 : Nat} {xs ys : List Value} (hP : w.ownsRow B E s1 vP nP xs) (hv : w.ownsRow B' E' s2 v n ys) (hne : E ≠ E') (hb : Below w.heap.size w W) (hg : W.grownBy w6 v.ownBlock) : w6.ownsRow B E s1 vP nP xs :=
  World.ownsRow.kept (ownsRow_kept hP hb) hg (own_ne hP hv hne)

set_option maxHeartbeats 4000000 in
set_option maxRecDepth 100000 in
theorem Split_ok (aS : Option Addr) (ns cS : Nat) (s : List Int) (ap : Option Addr) (np cp : Nat) (p : List Int) (m : Nat) (w : World)
    (hs : Rd w .i64 aS ns s) (hp : Rd w .i64 ap np p) (hok : okS s) (hm : s.length = m + 1) (hpl : p.length = cntN s) (hcp : np ≤ cp) (hcm : cp ≤ 9223372036854775807) :
    Calls Try.prog 36 #[.slice aS ns cS, .slice ap np cp] w fun e w' => ∃ mv ov xs zs ys, e = .returned (.tuple #[mv, ov, .int .i64 0]) ∧ w'.ownsRow w.heap.size 86 3 mv m xs ∧ MatX s xs zs m ∧ OwS w' w.heap.size 39 .i64 zs (lAs s p m) ∧
      w'.ownsRow w.heap.size 62 1 ov m ys ∧ OwS w' w.heap.size 39 .i64 ys (lBs s p m) ∧ Below w.heap.size w w' := by
  have hm0 : 1 ≤ m ∧ m ≤ 5 := by have := hok.1; have := hok.2.1; omega
  have hpp : 0 < np := by
    rw [← hp.1, hpl]
    have h1 := hok.szv (i := 0 + 1) (by omega)
    have := fst_mono s (i := 0 + 1) (j := m) (by omega)
    rw [fst_succ] at this
    have h3 : cntN s = fst s m := by unfold cntN; rw [hm, Nat.add_sub_cancel]
    rw [h3]
    omega
  obtain ⟨b, o, rfl, hbp, _⟩ := hp.2.2 hpp
  have hns : ns = m + 1 := by rw [← hs.1]; exact hm
  have hnp : cntN s = np := by rw [← hp.1]; exact hpl.symm
  have HSh := Lib.hid (shaped_any aS ns cS s (some ⟨b, o, none⟩) np cp w hs (by have := hp.2.1; omega))
  have he : shp s np = 0 := by unfold shp; rw [if_pos hok, if_pos hnp.symm]
  rw [he] at HSh
  have HLy := Lib.hid (layers_any aS ns cS s b o np cp w hs hok hnp hcp hcm)
  have Hnp : Hid (fst s m = np) := Lib.hid (by rw [← hnp]; unfold cntN; rw [hm, Nat.add_sub_cancel])
  have HS := Lib.hid hok
  have HM := Lib.hid hm
  have HP := Lib.hid hp
  subst hns
  rw [Nat.add_sub_cancel] at HLy
  clear hs hp hok hm hpl hnp he hpp
  go_enter Try.func36, Try.ntmps36
  go_wp2_with first
    | ((with_reducible refine (HSh.out).mono ?_); rintro e w1 ⟨rfl, rfl⟩)
    | fail
  ((with_reducible refine (HLy.out).mono ?_); rintro e w1 ⟨v1, xs1, rfl, hrow1, hx1, hb1⟩)
  obtain ⟨gL, cL, rfl, hgB, hgl, hLs⟩ := lays_of hrow1 hx1 hm0.1
  have HLs := Lib.hid hLs
  have Hb1 := Lib.hid hb1
  have hz1 := hb1.size
  clear hrow1 hx1 hb1 hLs
  go_wp2
  go_loopw [8, 9, 22] (fun mv ov k wr => ∃ (i : Nat) (xs zs ys : List Value), i ≤ m ∧ k = .int .i64 i ∧ Hid (wr.ownsRow w1.heap.size 86 3 mv i xs) ∧ Hid (MatX s xs zs i) ∧ Hid (OwS wr w1.heap.size 39 .i64 zs (lAs s p i)) ∧ Hid (wr.ownsRow w1.heap.size 62 1 ov i ys) ∧ Hid (OwS wr w1.heap.size 39 .i64 ys (lBs s p i)) ∧ Hid (Below w1.heap.size w1 wr)) (fun _ _ k _ => m - (intOf k).toNat)
  case atStart => exact ⟨0, [], [], [], Nat.zero_le _, rfl, World.ownsRow_nil _ _ _ _, ⟨rfl, rfl, fun j hj => absurd hj (by omega)⟩, ⟨rfl, fun j hj => absurd hj (by simp [lAs])⟩, World.ownsRow_nil _ _ _ _, ⟨rfl, fun j hj => absurd hj (by simp [lBs])⟩, Below.refl _ _⟩
  case round =>
    obtain ⟨i, xs, zs, ys, hi, rfl, hmr, hmx, hmo, hor, hoo, hb⟩ := hrel
    by_cases hlt : i < m
    · obtain ⟨_, q1, q2⟩ := HS.out.szv (i := i) (by rw [HM.out]; omega)
      obtain ⟨_, r1, r2⟩ := HS.out.szv (i := i + 1) (by rw [HM.out]; omega)
      have hzr := hb.out.size
      have k0 := (hb.out.cell (p := ⟨gL, i * 4, none⟩) hgl).trans (HLs.out i hlt 0 (by omega))
      have k1 := (hb.out.cell (p := ⟨gL, i * 4 + 1, none⟩) hgl).trans (HLs.out i hlt 1 (by omega))
      have k2 := (hb.out.cell (p := ⟨gL, i * 4 + 2, none⟩) hgl).trans (HLs.out i hlt 2 (by omega))
      have k3 := (hb.out.cell (p := ⟨gL, i * 4 + 3, none⟩) hgl).trans (HLs.out i hlt 3 (by omega))
      simp only [layC, List.getElem?_cons_zero, List.getElem?_cons_succ] at k0 k1 k2 k3
      have Hf := fst_succ s i
      have Hfm := fst_mono s (i := i + 1) (j := m) (by omega)
      rw [Hnp.out, Hf] at Hfm
      have hqr : szN s (i + 1) * szN s i ≤ 64 * 64 := Nat.mul_le_mul r2 q2
      have HC1 := Lib.hid (fun w' (hbw : Below w.heap.size w w') => clone_any (some ⟨b, o + fst s i, none⟩) (szN s (i + 1) * szN s i) (szN s (i + 1) * szN s i) (lA s p i) w'
        (by have h7 := (HP.out.kept hbw).cut (fst s i) (fst s i + szN s (i + 1) * szN s i) (by omega) (by omega) (a' := some ⟨b, o + fst s i, none⟩) (fun _ b' o' e => by cases e; rfl)
            rw [Nat.add_sub_cancel_left] at h7; exact h7) (by omega) (by intro h; cases h))
      have HC2 := Lib.hid (fun w' (hbw : Below w.heap.size w w') => clone_any (some ⟨b, o + fst s i + szN s (i + 1) * szN s i, none⟩) (szN s (i + 1)) (szN s (i + 1)) (lB s p i) w'
        (by have h7 := (HP.out.kept hbw).cut (fst s i + szN s (i + 1) * szN s i) (fst s i + szN s (i + 1) * szN s i + szN s (i + 1)) (by omega) (by omega) (a' := some ⟨b, o + fst s i + szN s (i + 1) * szN s i, none⟩) (fun _ b' o' e => by cases e; simp [Nat.add_assoc])
            rw [Nat.add_sub_cancel_left] at h7; exact h7) (by omega) (by intro h; cases h))
      have HbR := Lib.hid (Hb1.out.trans (hb.out.mono hz1))
      have Hsnx := Lib.hid (fun v => hmx.out.snoc v)
      have Has := Lib.hid (lAs_succ s p i)
      have Hbs := Lib.hid (lBs_succ s p i)
      clear Hf Hfm
      generalize szN s (i + 1) * szN s i = pq at *
      generalize hr : szN s (i + 1) = r at *
      generalize hq : szN s i = q at *
      generalize fst s i = f at *
      go_wp2_with fail
      ((with_reducible refine (HC1.out _ (by have := HbR.out; (repeat first | assumption | exact Below.refl _ _ | refine Below.drew ?_ | refine Below.drewN ?_ _ | refine Below.alloc ?_ (by (first | omega | (simp; done) | (simp; omega))) _ | refine Below.setCell ?_ (by (first | omega | (simp; done) | (simp; omega))) _ | refine Below.trans ?_ (Below.mono (by assumption) (by (first | omega | (simp; done) | (simp; omega))))))).mono ?_); rintro e w2 ⟨v2, rfl, ho2, hb2⟩)
      obtain ⟨a2, c2, rfl, _, _⟩ := ownsRow_form ho2
      obtain ⟨hc2, hf2⟩ := bcell hb2
      have hz2 := hb2.size
      simp at hz2 hc2 hf2
      have lt2 : wr.heap.size < w2.heap.size := by omega
      have Hb2 : Hid (Below wr.heap.size wr w2) := Lib.hid (by (repeat first | assumption | exact Below.refl _ _ | refine Below.drew ?_ | refine Below.drewN ?_ _ | refine Below.alloc ?_ (by (first | omega | (simp; done) | (simp; omega))) _ | refine Below.setCell ?_ (by (first | omega | (simp; done) | (simp; omega))) _ | refine Below.trans ?_ (Below.mono (by assumption) (by (first | omega | (simp; done) | (simp; omega))))))
      have Ho2 : Hid (Ow (w2.setCell ⟨wr.heap.size, 2, none⟩ (.slice a2 (lA s p i).length c2)) w1.heap.size 39 .i64 (.slice a2 (lA s p i).length c2) (lA s p i)) :=
        Lib.hid (Ow.mono (ownsRow_chg ho2 ((Chg.refl (fun k => k = wr.heap.size) w2).setCell_in ⟨wr.heap.size, 2, none⟩ (show wr.heap.size = wr.heap.size from rfl) _) (by rintro k rfl; simp)) (by simp; omega))
      have HbS : Hid (Below wr.heap.size wr (w2.setCell ⟨wr.heap.size, 2, none⟩ (.slice a2 (lA s p i).length c2))) := Lib.hid (by have := Hb2.out; (repeat first | assumption | exact Below.refl _ _ | refine Below.drew ?_ | refine Below.drewN ?_ _ | refine Below.alloc ?_ (by (first | omega | (simp; done) | (simp; omega))) _ | refine Below.setCell ?_ (by (first | omega | (simp; done) | (simp; omega))) _ | refine Below.trans ?_ (Below.mono (by assumption) (by (first | omega | (simp; done) | (simp; omega))))))
      have b3c : (w2.setCell ⟨wr.heap.size, 2, none⟩ (.slice a2 (lA s p i).length c2)).cell? ⟨wr.heap.size, 3, none⟩ = some (.slice (some ⟨b, o + f + pq, none⟩) r r) := by go_simp
      clear ho2 hb2
      go_wp2_with (at_builtin; refine wpl_app eMs rfl _ _ rfl w1.heap.size _ i xs rfl (by exact (ownsRow_kept hmr.out HbS.out).alloc _) w2.heap.size [.int .i64 r, .int .i64 q, .slice a2 (lA s p i).length c2] rfl rfl ?cc ?c1 ?c2 ?c3 ?c4 ?_)
      case cc =>
        intro j u hj
        rcases j with _ | _ | _ | j <;> simp at hj <;> (try subst hj) <;> exact World.cell?_alloc_at _ _ _ _ (by simp)
      case c1 =>
        intro u hu
        simp at hu
        rcases hu with rfl | rfl | rfl <;> rfl
      case c2 => unfold maxLen; omega
      case c3 => omega
      case c4 => simp; omega
      intro mv3 w3 hown3 hg3
      have hgz := hg3.size
      simp at hgz
      have Hor3 := Lib.hid (kept_size hor.out hmr.out (by decide) (HbS.out.alloc (by simp; omega) _) hg3)
      have Hoo3 := Lib.hid ((hoo.out.kept (HbS.out.alloc (by simp; omega) _)).grown (ownsRow_kept hmr.out (HbS.out.alloc (by simp; omega) _)) hg3 (by decide))
      have Hmo3 := Lib.hid (((((hmo.out.kept HbS.out).snoc Ho2.out).kept ((Below.refl _ _).alloc (Nat.le_refl _) _))).grown (ownsRow_kept hmr.out (HbS.out.alloc (by simp; omega) _)) hg3 (by decide))
      have Hb3 := Lib.hid (Below.grownOf (hb.out.trans ((HbS.out.alloc (by simp; omega) _).mono hzr)) (ownsRow_kept hmr.out (HbS.out.alloc (by simp; omega) _)) hg3 (by simp; omega))
      have b3 : w3.cell? ⟨wr.heap.size, 3, none⟩ = some (.slice (some ⟨b, o + f + pq, none⟩) r r) :=
        (World.cell?_of_block (hg3.block wr.heap.size (by simp; omega) (fun e => by have := (World.ownsRow.lt hmr.out _ e.symm).2; omega))).trans ((World.cell?_alloc_past _ _ _ (by simp; omega)).trans b3c)
      have Hmr3 := Lib.hid hown3
      have HbR3 := Lib.hid (Hb1.out.trans (Hb3.out.mono hz1))
      have hz3 := Hb3.out.size
      clear hown3 hg3 hc2 hf2 b3c
      go_wp2_with fail
      ((with_reducible refine (HC2.out _ HbR3.out).mono ?_); rintro e w4 ⟨v4, rfl, ho4, hb4⟩)
      obtain ⟨a4, c4, rfl, _, _⟩ := ownsRow_form ho4
      have Hor4 := Lib.hid (ownsRow_kept Hor3.out hb4)
      have Hoo4 := Lib.hid ((Hoo3.out.kept hb4).snoc (Ow.mono ho4 (by omega)))
      have Hmr4 := Lib.hid (ownsRow_kept Hmr3.out hb4)
      have Hmo4 := Lib.hid (Hmo3.out.kept hb4)
      have Hb4 := Lib.hid (Hb3.out.trans (hb4.mono hz3))
      have hz4 := Hb4.out.size
      clear ho4 hb4
      go_wp2_with (at_builtin; refine wpl_app1 eFss rfl _ _ rfl w1.heap.size _ i _ rfl (Hor4.out.alloc _) w4.heap.size (.slice a4 (lB s p i).length c4) rfl (World.cell?_alloc_at _ _ _ _ rfl) rfl ?d3 ?d4 ?d5 ?_)
      case d3 => unfold maxLen; omega
      case d4 => omega
      case d5 => simp; omega
      intro ov5 w5 hown5 hg5
      have Hmr5 := Lib.hid (kept_size Hmr4.out Hor4.out (by decide) ((Below.refl _ _).alloc (Nat.le_refl _) _) hg5)
      have Hmo5 := Lib.hid ((Hmo4.out.kept ((Below.refl w4.heap.size w4).alloc (Nat.le_refl _) (.cells #[.slice a4 (lB s p i).length c4] 62))).grown (Hor4.out.alloc _) hg5 (by decide))
      have Hoo5 := Lib.hid ((Hoo4.out.kept ((Below.refl w4.heap.size w4).alloc (Nat.le_refl _) (.cells #[.slice a4 (lB s p i).length c4] 62))).grown (Hor4.out.alloc _) hg5 (by decide))
      have Hb5 := Lib.hid (Below.grownOf (Hb4.out.alloc hz4 _) (Hor4.out.alloc _) hg5 (by simp; omega))
      have Hor5 := Lib.hid hown5
      clear hown5 hg5
      go_wp2
      go_roundw
      case rel => exact ⟨i + 1, _, _, _, by omega, by go_num, Hmr5.out, Hsnx.out _, Lib.hid (by rw [Has.out]; exact Hmo5.out), Hor5.out, Lib.hid (by rw [Hbs.out]; exact Hoo5.out), Hb5.out⟩
      case measure => simp [intOf]; omega
    · obtain rfl : i = m := by omega
      go_wp2
      go_ret3
      exact ⟨_, _, xs, zs, ys, rfl, ownsRow_mono hmr.out hz1, hmx.out, hmo.out.mono hz1, ownsRow_mono hor.out hz1, hoo.out.mono hz1, Hb1.out.trans (hb.out.mono hz1)⟩
end Go.Proofs.Ytdamenbpgkhiiaa
