/-
  regattaref02, regattaref05: one by a small number; numbers drawn between two bounds.
  regattaref07: the parameters to begin with.
  The walk of regattalaw07.MlpInits.
-/
import Derived.Test.YthingodgjeicpaaIniX
import Derived.Test.YthingodgjeicpaaRefQ
import Derived.Test.YthingodgjeicpaaRefI
import Derived.Test.YthingodgjeicpaaLawD
import Derived.Test.YthingodgjeicpaaFwdA
namespace Go.Proofs.Ythingodgjeicpaa
open Go.RowKit
set_option linter.unusedVariables false
set_option linter.unusedSimpArgs false

theorem SG_zero : SG 0 0 = .agg #[.int .u64 0, .int .u64 0, .int .u64 0, .int .u64 0, .int .u64 0, .int .u64 0, .int .u64 0, .int .u64 0, .int .u64 0, .int .u64 0, .int .u64 0, .int .u64 0] := by kernel_rfl

set_option maxHeartbeats 1600000 in
set_option maxRecDepth 20000 in
theorem rRatio_any (d : Nat) (w : World) (h : 1 ≤ d ∧ d ≤ 64) :
    Calls Try.prog 18 #[.int .i64 1, .int .i64 1, .int .i64 d] w fun e w' => e = .returned (.tuple #[.int .i64 (bN d), .bool false]) ∧ Below w.heap.size w w' := by
  have HA := Lib.hid (fun w => bAdd1_sp 0 0 1 0 0 w SP.zero (by unfold I64; omega))
  rw [SG_zero] at HA
  have HQ := Lib.hid (fun p n w (hs : SP p n (0 + 1 * 4294967296) (0 + 39614081257132168796771975168)) => bQuo_any p n d w (hs.u192 (by omega)).1 (hs.u192 (by omega)).2.1 (hs.u192 (by omega)).2.2 (by omega) (by omega))
  have hb := bN_bd h
  have hd0 : ((d : Int) == 0) = false := by simpa using (by omega : ¬ (d : Int) = 0)
  go_enter Try.func18, Try.ntmps18
  go_wp2_with fail
  ((with_reducible refine (HA.out _).mono ?_); rintro e w1 ⟨p, n, rfl, hs, hb1⟩)
  have HQ1 := Lib.hid (fun w => HQ.out p n w hs)
  have e1 : p - n = 4294967296 := by unfold SP at hs; omega
  rw [e1, show rne 4294967296 (d : Int) = bN d from rfl, (clampI_in' (show I64 (bN d) by unfold I64; omega)).1, (clampI_in' (show I64 (bN d) by unfold I64; omega)).2] at HQ1
  clear hs e1 HQ
  go_wp2_with fail
  ((with_reducible refine (HQ1.out _).mono ?_); rintro e w2 ⟨rfl, hb2⟩)
  go_wp2
  go_ret2
  exact ⟨rfl, hb1.trans (hb2.mono hb1.size)⟩

set_option maxHeartbeats 1600000 in
set_option maxRecDepth 20000 in
theorem rBetween_any (seed : Int) (i : Nat) (b : Int) (w : World) (hi : i ≤ 1000000) (hb : 1 ≤ b ∧ b ≤ 4294967296) :
    Calls Try.prog 20 #[keyV seed, .int .i64 i, .int .i64 (-b), .int .i64 b] w fun e w' => e = .returned (.int .i64 (betN seed i b)) ∧ Below w.heap.size w w' := by
  obtain ⟨x0, x1, y0, y1⟩ := betN_bd seed i hb
  have HP := Lib.hid (fun w => rPart_any seed i w hi)
  obtain ⟨p0, p1⟩ := partN_bd seed i
  have HM := Lib.hid (fun w => bProd_any (2 * b) (partN seed i) w (by omega) (by omega) p0 (by omega))
  have c1 : IntKind.u64.wrap b = b := by rw [IntKind.wrap_u64]; omega
  have c2 : IntKind.u64.wrap (b - IntKind.u64.wrap (-b)) = 2 * b := by rw [IntKind.wrap_u64, IntKind.wrap_u64]; omega
  have c3 : IntKind.u64.wrap (partN seed i) = partN seed i := by rw [IntKind.wrap_u64]; omega
  have hlt : ¬ b ≤ -b := by omega
  have HE : Hid (wrap64 (IntKind.u64.wrap (IntKind.u64.wrap (IntKind.u64.wrap (-b) + IntKind.u64.wrap (dg (2 * b * partN seed i) 2 * 4294967296)) + dg (2 * b * partN seed i) 1)) = betN seed i b) := Lib.hid (by
    unfold betN at *
    generalize 2 * b * partN seed i = X at *
    rw [IntKind.wrap_u64, IntKind.wrap_u64, IntKind.wrap_u64, IntKind.wrap_u64]
    simp only [dg, qd]
    unfold wrap64
    omega)
  clear x0 x1 y0 y1 hb p0 p1
  rw [← HE.out]
  generalize 2 * b * partN seed i = X at *
  generalize partN seed i = P at *
  clear HE
  unfold keyV at *
  go_enter Try.func20, Try.ntmps20
  go_wp2_with fail
  ((with_reducible refine (HP.out _).mono ?_); rintro e w1 ⟨rfl, hb1⟩)
  have hz1 := hb1.size
  have Hb1 : Hid (Below w.heap.size w w1) := Lib.hid (by (repeat first | assumption | exact Below.refl _ _ | refine Below.drew ?_ | refine Below.drewN ?_ _ | refine Below.alloc ?_ (by (first | omega | (simp; done) | (simp; omega))) _ | refine Below.setCell ?_ (by (first | omega | (simp; done) | (simp; omega))) _ | refine Below.trans ?_ (Below.mono (by assumption) (by (first | omega | (simp; done) | (simp; omega))))))
  clear hb1
  go_wp2_with fail
  ((with_reducible refine (HM.out _).mono ?_); rintro e w2 ⟨rfl, hb2⟩)
  have Hb2 : Hid (Below w.heap.size w w2) := Lib.hid (Hb1.out.trans (hb2.mono Hb1.out.size))
  have hz2 := Hb2.out.size
  clear hb2
  go_wp2
  go_ret
  exact ⟨rfl, Hb2.out.alloc hz2 _⟩

theorem set_next (A : List Int) (r : Nat) (v : Int) {i : Nat} (hi : i = A.length) : (A ++ List.replicate (r + 1) (0 : Int)).set i v = A ++ [v] ++ List.replicate r 0 := by
  subst hi
  rw [List.set_append_right _ _ (Nat.le_refl _), Nat.sub_self, List.replicate_succ, List.set_cons_zero, List.append_assoc]
  rfl
def NetAt (w : World) (nb bs os n cS : Nat) : Prop := w.cell? ⟨nb, 0, none⟩ = some (.slice (some ⟨bs, os, none⟩) n cS) ∧ w.cell? ⟨nb, 1, none⟩ = some (.slice none 0 0)
theorem NetAt.kept {w w' : World} {nb bs os n cS : Nat} (h : NetAt w nb bs os n cS) (hb : Below w.heap.size w w') : NetAt w' nb bs os n cS := by
  have hlt := World.block_lt_of_cell? _ _ h.1
  exact ⟨(hb.cell (p := ⟨nb, 0, none⟩) hlt).trans h.1, (hb.cell (p := ⟨nb, 1, none⟩) hlt).trans h.2⟩
theorem NetAt.far {w : World} {nb bs os n cS g i : Nat} {v : Value} (h : NetAt w nb bs os n cS) (hg : g ≠ nb) : NetAt (w.setCell ⟨g, i, none⟩ v) nb bs os n cS :=
  ⟨(World.cell?_setCell_far _ _ _ _ hg).trans h.1, (World.cell?_setCell_far _ _ _ _ hg).trans h.2⟩

set_option maxHeartbeats 3200000 in
set_option maxRecDepth 100000 in
theorem rInit_ok (seed : Int) (aS : Option Addr) (ns cS : Nat) (s : List Int) (m : Nat) (w : World) (hs : Rd w .i64 aS ns s) (hok : okS s) (hm : s.length = m + 1) :
    Calls Try.prog 10 #[.int .u64 seed, .slice aS ns cS] w fun e w' => ∃ g, e = .returned (.slice (some ⟨g, 0, none⟩) (cntN s) (cntN s)) ∧ Rd w' .i64 (some ⟨g, 0, none⟩) (cntN s) (iniP s seed m) ∧ Below w.heap.size w w' := by
  have hns : ns = m + 1 := by rw [← hs.1]; exact hm
  have hm15 : 1 ≤ m ∧ m ≤ 5 := by have := hok.1; have := hok.2.1; omega
  obtain ⟨hm1, hm5⟩ := hm15
  have HCo := Lib.hid (fun w' (hb' : Below w.heap.size w w') => rCount_any aS ns cS s w' (hs.kept hb'))
  have hce : rcnt s = (cntN s : Int) := by unfold rcnt; rw [if_pos hok]
  rw [hce] at HCo
  have hcb := cnt_bd hok
  have hcm : cntN s = fst s m := by unfold cntN; rw [hm, Nat.add_sub_cancel]
  obtain ⟨bs, os, rfl, hbs, hc0⟩ := hs.at (i := 0) (by omega)
  have HSz : Hid (∀ l, l ≤ m → w.cell? ⟨bs, os + l, none⟩ = some (.int .i64 (szN s l : Int)) ∧ 1 ≤ szN s l ∧ szN s l ≤ 64) := Lib.hid (fun l hl => by
    obtain ⟨b', o', e', _, hc⟩ := hs.at (i := l) (by omega)
    cases e'
    have h := hok.szv (i := l) (by omega)
    rw [h.1] at hc
    exact ⟨hc, h.2⟩)
  have HFb : Hid (∀ l, l < m → fst s l + szN s (l + 1) * szN s l + szN s (l + 1) ≤ cntN s) := Lib.hid (fun l hl => by
    have h1 := fst_succ s l
    have := fst_mono s (i := l + 1) (j := m) (by omega)
    omega)
  have HFi := Lib.hid (fun l w' a np c (hl : l ≤ m) (hb' : Below w.heap.size w w') => First_any bs os cS m s a np c l w' (by rw [← hns]; exact hs.kept hb') hok hl)
  have Hend : Hid (fst s m = cntN s) := Lib.hid hcm.symm
  subst hns
  obtain ⟨i0, hi0, hz0, hz1, hz2⟩ := eIs1
  clear hs hok hce hcm hc0
  generalize hcn : cntN s = N at *
  clear hcn
  go_enter Try.func10, Try.ntmps10
  go_wp2_with fail
  ((with_reducible refine (HCo.out _ (by (repeat first | assumption | exact Below.refl _ _ | refine Below.drew ?_ | refine Below.drewN ?_ _ | refine Below.alloc ?_ (by (first | omega | (simp; done) | (simp; omega))) _ | refine Below.setCell ?_ (by (first | omega | (simp; done) | (simp; omega))) _ | refine Below.trans ?_ (Below.mono (by assumption) (by (first | omega | (simp; done) | (simp; omega))))))).mono ?_); rintro e w1 ⟨rfl, ⟨nd, rfl⟩⟩)
  have Hb1 : Hid (Below w.heap.size w ((w.alloc (.cells #[.slice (some ⟨bs, os, none⟩) (m + 1) cS, .slice none 0 0] 54)).drewN nd)) := Lib.hid (by (repeat first | assumption | exact Below.refl _ _ | refine Below.drew ?_ | refine Below.drewN ?_ _ | refine Below.alloc ?_ (by (first | omega | (simp; done) | (simp; omega))) _ | refine Below.setCell ?_ (by (first | omega | (simp; done) | (simp; omega))) _ | refine Below.trans ?_ (Below.mono (by assumption) (by (first | omega | (simp; done) | (simp; omega))))))
  have Hn1 : Hid (NetAt ((w.alloc (.cells #[.slice (some ⟨bs, os, none⟩) (m + 1) cS, .slice none 0 0] 54)).drewN nd) w.heap.size bs os (m + 1) cS) := Lib.hid ⟨World.cell?_alloc_at _ _ _ _ rfl, World.cell?_alloc_at _ _ _ _ rfl⟩
  have hz1' : ((w.alloc (.cells #[.slice (some ⟨bs, os, none⟩) (m + 1) cS, .slice none 0 0] 54)).drewN nd).heap.size = w.heap.size + 1 := by simp
  generalize ((w.alloc (.cells #[.slice (some ⟨bs, os, none⟩) (m + 1) cS, .slice none 0 0] 54)).drewN nd) = W1 at *
  go_wp2_with (at_make; refine wpList_make_full _ rfl _ _ 31 rfl w.heap.size 2 i0 (.int .i64 0) 1 eIs.und hi0 hz0 hz1 _ _ _ _ N rfl rfl rfl rfl ?b1 ?b2 ?b3 ?_)
  case b1 => rw [hz2]; omega
  case b2 => unfold maxLen; omega
  case b3 => omega
  intro w2 hown hg
  clear hi0 hz0 hz1 hz2
  rw [toList_madeCells_one] at hown
  have hb2 : Below W1.heap.size W1 w2 := ⟨hg.os, hg.tape, hg.output, hg.size, fun k hk => hg.block k hk (by simp)⟩
  have Hb2 : Hid (Below w.heap.size w w2) := Lib.hid (Hb1.out.trans (hb2.mono Hb1.out.size))
  have Hn2 := Lib.hid (Hn1.out.kept hb2)
  have Ho2 : Hid (w2.ownsRow w.heap.size 2 1 (.slice (some ⟨w.heap.size + 1, 0, none⟩) N N) N ((iniP s seed 0 ++ List.replicate (N - fst s 0) (0 : Int)).map (Value.int .i64))) := Lib.hid (by simpa [iniP, fst] using hown)
  clear hown hg hb2 Hn1 Hb1
  go_wp2
  clear hz1'
  have hne : w.heap.size + 1 ≠ w.heap.size := by omega
  go_loopw [7] (fun lv wr => ∃ l : Nat, l ≤ m ∧ lv = .int .i64 l ∧ Hid (wr.ownsRow w.heap.size 2 1 (.slice (some ⟨w.heap.size + 1, 0, none⟩) N N) N ((iniP s seed l ++ List.replicate (N - fst s l) (0 : Int)).map (Value.int .i64))) ∧ Hid (NetAt wr w.heap.size bs os (m + 1) cS) ∧ Hid (Below w.heap.size w wr)) (fun lv _ => m - (intOf lv).toNat)
  case atStart => exact ⟨0, Nat.zero_le _, rfl, Ho2.out, Hn2.out, Hb2.out⟩
  case round =>
    obtain ⟨l, hl, rfl, hown, hnet, hbb⟩ := hrel
    have hzr := hbb.out.size
    have hwl : IntKind.i64.wrap ((l : Int) + 1) = (l : Int) + 1 := by rw [IntKind.wrap_i64]; omega
    by_cases hlt : l < m
    · have hlm : (l : Int) + 1 < (m : Int) + 1 := by omega
      obtain ⟨q0, q1, q2⟩ := HSz.out l (by omega)
      obtain ⟨q3, q4, q5⟩ := HSz.out (l + 1) (by omega)
      have d0 : wr.cell? ⟨bs, os + l, none⟩ = some (.int .i64 (szN s l : Int)) := (hbb.out.cell (p := ⟨bs, os + l, none⟩) hbs).trans q0
      have hfb := HFb.out l hlt
      have Hsl : Hid (∀ k, layL s seed l (k + 1) = layL s seed l k ++ [betN seed ((fst s l + k : Nat) : Int) (bN (szN s l))]) := Lib.hid (fun k => layL_succ s seed l k)
      have Hsi : Hid (iniP s seed (l + 1) = iniP s seed l ++ (layL s seed l (szN s (l + 1) * szN s l) ++ List.replicate (szN s (l + 1)) 0)) := Lib.hid (by rw [iniP_succ]; rfl)
      have Hfs : Hid (fst s (l + 1) = fst s l + (szN s (l + 1) * szN s l + szN s (l + 1))) := Lib.hid (fst_succ s l)
      have Hil : Hid ((iniP s seed l).length = fst s l) := Lib.hid (iniP_len s seed l)
      have Hll : Hid (∀ k, (layL s seed l k).length = k) := Lib.hid (fun k => layL_len s seed l k)
      have HR := Lib.hid (fun w => rRatio_any (szN s l) w ⟨q1, q2⟩)
      have hbN := bN_bd ⟨q1, q2⟩
      have HBe := Lib.hid (fun i w (hi : i ≤ 1000000) => rBetween_any seed i (bN (szN s l)) w hi hbN)
      have Hl0 : Hid (layL s seed l 0 = []) := Lib.hid rfl
      have HFl := Lib.hid (fun w' (hb' : Below w.heap.size w w') => HFi.out l w' none 0 0 (by omega) hb')
      obtain ⟨n, hn⟩ : ∃ n, szN s (l + 1) * szN s l = n := ⟨_, rfl⟩
      have hNi : ((szN s l : Nat) : Int) * ((szN s (l + 1) : Nat) : Int) = (n : Int) := by rw [← hn, Int.mul_comm]; simp
      rw [hn] at hfb Hsi Hfs
      generalize szN s (l + 1) = A at *
      generalize szN s l = C at *
      generalize fst s l = F at *
      generalize bN C = b at *
      have hli0 : (0 : Int) ≤ (l : Int) := by omega
      have hli1 : (0 : Int) ≤ (l : Int) + 1 := by omega
      have hlim : (l : Int) < (m : Int) + 1 := by omega
      have hwn : IntKind.i64.wrap (n : Int) = (n : Int) := by rw [IntKind.wrap_i64]; omega
      have hwb : IntKind.i64.wrap (-b) = -b := by rw [IntKind.wrap_i64]; omega
      clear hn
      go_wp2_with fail
      ((with_reducible refine (HR.out _).mono ?_); rintro e w3 ⟨rfl, hb3⟩)
      have Hb3 : Hid (Below w.heap.size w w3) := Lib.hid (hbb.out.trans (hb3.mono hzr))
      have Hown3 := Lib.hid (ownsRow_kept hown.out hb3)
      have Hnet3 := Lib.hid (hnet.out.kept hb3)
      clear hb3 hown hnet d0
      have hz3 := Hb3.out.size
      go_wp2
      go_loopw [10] (fun kv wr' => ∃ k : Nat, k ≤ n ∧ kv = .int .i64 k ∧ Hid (wr'.ownsRow w.heap.size 2 1 (.slice (some ⟨w.heap.size + 1, 0, none⟩) N N) N ((iniP s seed l ++ layL s seed l k ++ List.replicate (N - F - k) (0 : Int)).map (Value.int .i64))) ∧ Hid (NetAt wr' w.heap.size bs os (m + 1) cS) ∧ Hid (Below w.heap.size w wr')) (fun kv _ => n - (intOf kv).toNat)
      case atStart => exact ⟨0, Nat.zero_le _, rfl, Lib.hid (by rw [Hl0.out, List.append_nil]; exact Hown3.out), Hnet3.out, Hb3.out⟩
      case round =>
        rename World => wi
        obtain ⟨k, hk, rfl, hown, hnet, hbi⟩ := hrel
        have hzi := hbi.out.size
        have dl : wi.cell? ⟨bs, os + l, none⟩ = some (.int .i64 (C : Int)) := (hbi.out.cell (p := ⟨bs, os + l, none⟩) hbs).trans q0
        have dA : wi.cell? ⟨bs, os + (l + 1), none⟩ = some (.int .i64 (A : Int)) := (hbi.out.cell (p := ⟨bs, os + (l + 1), none⟩) hbs).trans q3
        by_cases hltk : k < n
        · have hk0 : (0 : Int) ≤ (k : Int) := by omega
          have hkN : (k : Int) < (n : Int) := by omega
          go_wp2
          go_quiet (fail)
          have HbD : Hid (Below wi.heap.size wi (wi.drewN nq)) := Lib.hid (Go.Proofs.Ythingodgjeicpaa.Below.drewN (Below.refl _ _) _)
          have hownD := Lib.hid (ownsRow_kept hown.out HbD.out)
          have hnetD := Lib.hid (hnet.out.kept HbD.out)
          have HbW : Hid (Below w.heap.size w (wi.drewN nq)) := Lib.hid (hbi.out.trans (HbD.out.mono hzi))
          generalize wi.drewN nq = Wd at *
          clear hown hnet HbD dl dA
          obtain ⟨n0, n1⟩ := hnetD.out
          have hzd := HbW.out.size
          go_wp2_with fail
          ((with_reducible refine (HFl.out _ HbW.out).mono ?_); rintro e w5 ⟨rfl, hb5⟩)
          have Hb5 : Hid (Below w.heap.size w w5) := Lib.hid (HbW.out.trans (hb5.mono hzd))
          have hz5 := Hb5.out.size
          have hown5 := Lib.hid (ownsRow_kept hownD.out hb5)
          have hnet5 := Lib.hid (hnetD.out.kept hb5)
          clear hb5 hownD hnetD n0 n1
          have HBk := Lib.hid (fun w => HBe.out (F + k) w (by omega))
          have Hslk := Lib.hid (Hsl.out k)
          rw [show ((F + k : Nat) : Int) = (F : Int) + (k : Int) by simp] at HBk Hslk
          unfold keyV at HBk
          generalize betN seed ((F : Int) + (k : Int)) b = z at *
          have hwF : IntKind.i64.wrap ((F : Int) + (k : Int)) = (F : Int) + (k : Int) := by rw [IntKind.wrap_i64]; omega
          go_wp2_with fail
          ((with_reducible refine (HBk.out _).mono ?_); rintro e w6 ⟨rfl, hb6⟩)
          have Hb6 : Hid (Below w.heap.size w w6) := Lib.hid (Hb5.out.trans (hb6.mono hz5))
          have hz6 := Hb6.out.size
          have hown6 := Lib.hid (ownsRow_kept hown5.out hb6)
          have hnet6 := Lib.hid (hnet5.out.kept hb6)
          clear hb6 hown5 hnet5
          have hFN : F + k < N := by omega
          have c6 := World.ownsRow.cellAt hown6.out (F + k) (by omega)
          have f6 := World.ownsRow.frozenAt hown6.out (F + k)
          obtain ⟨y, hy⟩ : ∃ y, ((iniP s seed l ++ layL s seed l k ++ List.replicate (N - F - k) (0 : Int)).map (Value.int .i64))[F + k]? = some y := by
            have h1 := hown6.out.1
            exact ⟨_, List.getElem?_eq_getElem (by rw [h1]; omega)⟩
          rw [hy] at c6
          have hj0 : (0 : Int) ≤ (F : Int) + (k : Int) := by omega
          have hjN : (F : Int) + (k : Int) < (N : Int) := by omega
          have HO : Hid ((w6.setCell ⟨w.heap.size + 1, F + k, none⟩ (.int .i64 z)).ownsRow w.heap.size 2 1 (.slice (some ⟨w.heap.size + 1, 0, none⟩) N N) N ((iniP s seed l ++ layL s seed l (k + 1) ++ List.replicate (N - F - (k + 1)) (0 : Int)).map (Value.int .i64))) := Lib.hid (by
            have h := ownsRow_set hown6.out hFN (.int .i64 z)
            rw [set_map, show N - F - k = (N - F - (k + 1)) + 1 by omega, set_next _ _ _ (by rw [List.length_append, Hil.out, Hll.out]), List.append_assoc (iniP s seed l), ← Hslk.out] at h
            exact h)
          have HNt : Hid (NetAt (w6.setCell ⟨w.heap.size + 1, F + k, none⟩ (.int .i64 z)) w.heap.size bs os (m + 1) cS) := Lib.hid (hnet6.out.far hne)
          have HBs : Hid (Below w.heap.size w (w6.setCell ⟨w.heap.size + 1, F + k, none⟩ (.int .i64 z))) := Lib.hid (Hb6.out.setCell (Nat.le_succ _) _)
          clear hown6 hnet6 Hb6 hy
          go_wp2
          go_roundw
          case rel => exact ⟨k + 1, by omega, by go_num, HO.out, HNt.out, HBs.out⟩
          case measure => first | (simp [intOf]; done) | (simp [intOf]; omega)
        · obtain rfl : k = n := by omega
          go_wp2
          go_quiet (fail)
          have HbD : Hid (Below wi.heap.size wi (wi.drewN nq)) := Lib.hid (Go.Proofs.Ythingodgjeicpaa.Below.drewN (Below.refl _ _) _)
          have hnetD := Lib.hid (hnet.out.kept HbD.out)
          have HbW : Hid (Below w.heap.size w (wi.drewN nq)) := Lib.hid (hbi.out.trans (HbD.out.mono hzi))
          have HO : Hid ((wi.drewN nq).ownsRow w.heap.size 2 1 (.slice (some ⟨w.heap.size + 1, 0, none⟩) N N) N ((iniP s seed (l + 1) ++ List.replicate (N - fst s (l + 1)) (0 : Int)).map (Value.int .i64))) := Lib.hid (by
            have h := ownsRow_kept hown.out HbD.out
            rw [show N - F - k = A + (N - fst s (l + 1)) by rw [Hfs.out]; omega, ← List.replicate_append_replicate] at h
            rw [Hsi.out]
            simpa only [List.append_assoc] using h)
          generalize wi.drewN nq = Wd at *
          clear hown hnet HbD dl dA
          go_wp2
          go_roundw
          case rel => exact ⟨l + 1, by omega, by go_num, HO.out, hnetD.out, HbW.out⟩
          case measure => first | (simp [intOf]; done) | (simp [intOf]; omega)
    · obtain rfl : l = m := by omega
      have hr : Hid (Rd wr .i64 (some ⟨w.heap.size + 1, 0, none⟩) N (iniP s seed l)) := Lib.hid (by
        have h := hown.out
        rw [Hend.out, Nat.sub_self, List.replicate_zero, List.append_nil] at h
        exact Ow.rd (Ow.of h) (by omega))
      clear hown
      go_wp2
      go_ret
      exact ⟨w.heap.size + 1, rfl, hr.out, hbb.out⟩

set_option maxHeartbeats 3200000 in
set_option maxRecDepth 100000 in
theorem inits_walk (seed : Int) (aS : Option Addr) (ns cS : Nat) (s : List Int) (w : World) (hS : InRow w aS ns cS s) :
    Calls Try.prog 3 #[.int .u64 seed, .slice aS ns cS] w fun e w' => e = .returned (.bool true) ∧ Below w.heap.size w w' := by
  have hnsm : ns ≤ 9223372036854775807 := by have := hS.nc; have := hS.cm; omega
  have HAw := Lib.hid (fun w => awake_any w)
  by_cases h10 : ns ≤ 10
  · have HRc := Lib.hid (fun w' (hb : Below w.heap.size w w') => rCount_any aS ns cS s w' ((hS.rd (by omega)).kept hb))
    by_cases h400 : rcnt s ≤ 400
    · have hn10 : ¬ ((10 : Int) < (ns : Int)) := by omega
      have hn400 : ¬ ((400 : Int) < rcnt s) := by omega
      by_cases hok : okS s
      · obtain ⟨m, hm⟩ : ∃ m, s.length = m + 1 := ⟨s.length - 1, by have := hok.1; omega⟩
        have hrc : rcnt s = (cntN s : Int) := by unfold rcnt; rw [if_pos hok]
        have hcm : cntN s = fst s m := by unfold cntN; rw [hm, Nat.add_sub_cancel]
        have HI := Lib.hid (fun w' (hb : Below w.heap.size w w') => Init_ok seed aS ns cS s m w' ((hS.rd (by omega)).kept hb) hok hm)
        have HR := Lib.hid (fun w' (hb : Below w.heap.size w w') => rInit_ok seed aS ns cS s m w' ((hS.rd (by omega)).kept hb) hok hm)
        have Hil : Hid ((iniP s seed m).length = cntN s) := Lib.hid (by rw [iniP_len, hcm])
        rw [hrc] at HRc h400 hn400
        clear hS hok hrc hcm hm
        generalize iniP s seed m = L at *
        generalize cntN s = N at *
        have hneg : ¬ ((N : Int) < 0) := by omega
        have hN : N ≤ 400 := by omega
        go_enter Try.func3, Try.ntmps3
        go_wp2_with first
          | ((with_reducible refine (HAw.out _).mono ?_); rintro e w1 ⟨rfl, hb1⟩; have Hb1 : Hid (Below w.heap.size w w1) := Lib.hid (by (repeat first | assumption | exact Below.refl _ _ | refine Below.drew ?_ | refine Below.drewN ?_ _ | refine Below.alloc ?_ (by (first | omega | (simp; done) | (simp; omega))) _ | refine Below.setCell ?_ (by (first | omega | (simp; done) | (simp; omega))) _ | refine Below.trans ?_ (Below.mono (by assumption) (by (first | omega | (simp; done) | (simp; omega)))))); clear hb1 HAw)
          | ((with_reducible refine (HRc.out _ Hb1.out).mono ?_); rintro e w2 ⟨rfl, ⟨nd2, rfl⟩⟩)
          | fail
        have Hb2 : Hid (Below w.heap.size w (w1.drewN nd2)) := Lib.hid (Go.Proofs.Ythingodgjeicpaa.Below.drewN Hb1.out _)
        generalize w1.drewN nd2 = W2 at *
        have hz2 := Hb2.out.size
        ((with_reducible refine (HI.out _ Hb2.out).mono ?_); rintro e w3 ⟨v3, rfl, ho3, hb3⟩)
        have Hb3 : Hid (Below w.heap.size w w3) := Lib.hid (Hb2.out.trans (hb3.mono hz2))
        have hz3 := Hb3.out.size
        unfold Ow at ho3
        rw [Hil.out] at ho3
        obtain ⟨a3, c3, rfl, _, _⟩ := ownsRow_form ho3
        have Hr3 := Lib.hid (Ow.rd (n := N) (a := a3) (c := c3) (Ow.of ho3) (by omega))
        clear ho3 hb3
        go_wp2_with fail
        ((with_reducible refine (HRc.out _ Hb3.out).mono ?_); rintro e w4 ⟨rfl, ⟨nd4, rfl⟩⟩)
        have Hr4 : Hid (Rd (w3.drewN nd4) .i64 a3 N L) := Lib.hid (Rd.drewN Hr3.out _)
        have Hb4 : Hid (Below w.heap.size w (w3.drewN nd4)) := Lib.hid (Go.Proofs.Ythingodgjeicpaa.Below.drewN Hb3.out _)
        generalize w3.drewN nd4 = W4 at *
        have hz4 := Hb4.out.size
        have HP := Lib.hid (plain_any a3 N c3 L W4 Hr4.out (by omega))
        go_wp2_with fail
        ((with_reducible refine (HP.out).mono ?_); rintro e w5 ⟨v5, rfl, ho5, hb5⟩)
        have Hb5 : Hid (Below w.heap.size w w5) := Lib.hid (Hb4.out.trans (hb5.mono hz4))
        have hz5 := Hb5.out.size
        unfold Ow at ho5
        rw [Hil.out] at ho5
        obtain ⟨a5, c5, rfl, _, _⟩ := ownsRow_form ho5
        have Hr5 := Lib.hid (Ow.rd (n := N) (a := a5) (c := c5) (Ow.of ho5) (by omega))
        clear ho5 hb5 HP
        go_wp2_with fail
        ((with_reducible refine (HR.out _ Hb5.out).mono ?_); rintro e w6 ⟨g6, rfl, hr6, hb6⟩)
        have Hb6 : Hid (Below w.heap.size w w6) := Lib.hid (Hb5.out.trans (hb6.mono hz5))
        have HSm := Lib.hid (rSame_any a5 (some ⟨g6, 0, none⟩) N c5 N L w6 (Hr5.out.kept hb6) hr6)
        clear hb6 hr6
        go_wp2_with fail
        ((with_reducible refine (HSm.out).mono ?_); rintro e w7 ⟨rfl, ⟨nd7, rfl⟩⟩)
        go_wp2
        go_ret
        exact ⟨rfl, Go.Proofs.Ythingodgjeicpaa.Below.drewN Hb6.out _⟩
      · have hrc : rcnt s = -1 := by unfold rcnt; rw [if_neg hok]
        have HI := Lib.hid (fun w' (hb : Below w.heap.size w w') => Init_bad seed aS ns cS s w' ((hS.rd (by omega)).kept hb) hok)
        rw [hrc] at HRc
        clear hS hok hrc
        go_enter Try.func3, Try.ntmps3
        go_wp2_with first
          | ((with_reducible refine (HAw.out _).mono ?_); rintro e w1 ⟨rfl, hb1⟩; have Hb1 : Hid (Below w.heap.size w w1) := Lib.hid (by (repeat first | assumption | exact Below.refl _ _ | refine Below.drew ?_ | refine Below.drewN ?_ _ | refine Below.alloc ?_ (by (first | omega | (simp; done) | (simp; omega))) _ | refine Below.setCell ?_ (by (first | omega | (simp; done) | (simp; omega))) _ | refine Below.trans ?_ (Below.mono (by assumption) (by (first | omega | (simp; done) | (simp; omega)))))); clear hb1 HAw)
          | ((with_reducible refine (HRc.out _ Hb1.out).mono ?_); rintro e w2 ⟨rfl, ⟨nd2, rfl⟩⟩)
          | fail
        have Hb2 : Hid (Below w.heap.size w (w1.drewN nd2)) := Lib.hid (Go.Proofs.Ythingodgjeicpaa.Below.drewN Hb1.out _)
        generalize w1.drewN nd2 = W2 at *
        ((with_reducible refine (HI.out _ Hb2.out).mono ?_); rintro e w3 ⟨rfl, rfl⟩)
        go_wp2_with fail
        ((with_reducible refine (HRc.out _ Hb2.out).mono ?_); rintro e w4 ⟨rfl, ⟨nd4, rfl⟩⟩)
        go_wp2
        go_ret
        exact ⟨rfl, Go.Proofs.Ythingodgjeicpaa.Below.drewN Hb2.out _⟩
    · have hn10 : ¬ ((10 : Int) < (ns : Int)) := by omega
      have hn400 : (400 : Int) < rcnt s := by omega
      clear hS h400
      generalize rcnt s = N at *
      go_enter Try.func3, Try.ntmps3
      go_wp2_with first
        | ((with_reducible refine (HAw.out _).mono ?_); rintro e w1 ⟨rfl, hb1⟩; have Hb1 : Hid (Below w.heap.size w w1) := Lib.hid (by (repeat first | assumption | exact Below.refl _ _ | refine Below.drew ?_ | refine Below.drewN ?_ _ | refine Below.alloc ?_ (by (first | omega | (simp; done) | (simp; omega))) _ | refine Below.setCell ?_ (by (first | omega | (simp; done) | (simp; omega))) _ | refine Below.trans ?_ (Below.mono (by assumption) (by (first | omega | (simp; done) | (simp; omega)))))); clear hb1 HAw)
        | ((with_reducible refine (HRc.out _ Hb1.out).mono ?_); rintro e w2 ⟨rfl, ⟨nd2, rfl⟩⟩)
        | fail
      go_ret
      exact ⟨rfl, Go.Proofs.Ythingodgjeicpaa.Below.drewN Hb1.out _⟩
  · have hn10 : (10 : Int) < (ns : Int) := by omega
    clear hS
    go_enter Try.func3, Try.ntmps3
    go_wp2_with first
      | ((with_reducible refine (HAw.out _).mono ?_); rintro e w1 ⟨rfl, hb1⟩; have Hb1 : Hid (Below w.heap.size w w1) := Lib.hid (by (repeat first | assumption | exact Below.refl _ _ | refine Below.drew ?_ | refine Below.drewN ?_ _ | refine Below.alloc ?_ (by (first | omega | (simp; done) | (simp; omega))) _ | refine Below.setCell ?_ (by (first | omega | (simp; done) | (simp; omega))) _ | refine Below.trans ?_ (Below.mono (by assumption) (by (first | omega | (simp; done) | (simp; omega)))))); clear hb1 HAw)
      | fail
    go_ret
    exact ⟨rfl, Hb1.out⟩
end Go.Proofs.Ythingodgjeicpaa
