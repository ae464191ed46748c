/-
  regattaref07: what a net comes to at an input, by definition.
-/
import Derived.Test.YtdamenbpgkhiiaaRefI
import Derived.Test.YtdamenbpgkhiiaaLawD
namespace Go.Proofs.Ytdamenbpgkhiiaa
open Go.RowKit
set_option linter.unusedVariables false
set_option linter.unusedSimpArgs false

theorem eIss : Elem Try.prog 98 53 1 24 (.slice none 0 0) := ⟨Try.underlying98, by kernel_rfl, rfl, by omega⟩
theorem rA_at {s p : List Int} {l j : Nat} (hj : j < szN s (l + 1) * szN s l) : (lA s p l)[j]?.getD 0 = p[fst s l + j]?.getD 0 := by
  unfold lA
  rw [List.getElem?_drop, List.getElem?_take, if_pos (by omega)]
theorem rB_at {s p : List Int} {l j : Nat} (hj : j < szN s (l + 1)) : (lB s p l)[j]?.getD 0 = p[fst s l + szN s (l + 1) * szN s l + j]?.getD 0 := by
  unfold lB
  rw [List.getElem?_drop, List.getElem?_take, if_pos (by omega)]
theorem Chg.set12 {a w : World} {g : Nat} {p n : Int} (h : Chg (fun k => k = g) a w) : Chg (fun k => k = g) a (set12 w g p n) :=
  (((((((((((h.setCell_in ⟨g, 0, none⟩ (show g = g from rfl) _).setCell_in ⟨g, 1, none⟩ (show g = g from rfl) _).setCell_in ⟨g, 2, none⟩ (show g = g from rfl) _).setCell_in ⟨g, 3, none⟩ (show g = g from rfl) _).setCell_in ⟨g, 4, none⟩ (show g = g from rfl) _).setCell_in ⟨g, 5, none⟩ (show g = g from rfl) _).setCell_in ⟨g, 6, none⟩ (show g = g from rfl) _).setCell_in ⟨g, 7, none⟩ (show g = g from rfl) _).setCell_in ⟨g, 8, none⟩ (show g = g from rfl) _).setCell_in ⟨g, 9, none⟩ (show g = g from rfl) _).setCell_in ⟨g, 10, none⟩ (show g = g from rfl) _).setCell_in ⟨g, 11, none⟩ (show g = g from rfl) _
theorem UAt.chg {S : Nat → Prop} {w w' : World} {b : Nat} {n : Int} (h : UAt w b n) (hc : Chg S w w') (hS : ¬ S b) : UAt w' b n :=
  ⟨(hc.cell h.lt hS).trans h.cell, (hc.frozen h.lt hS).trans h.frozen⟩
theorem UAt.grown {w w' : World} {b : Nat} {n : Int} {B : Nat} {v : Value} {E : TypeId} {size m : Nat} {xs : List Value} (h : UAt w b n) (hown : w.ownsRow B E size v m xs) (hg : w.grownBy w' v.ownBlock) (hB : b < B) : UAt w' b n :=
  Un.grown (u := some b) (fun b' e => by cases e; exact h) hown hg (fun k hk => by cases hk; exact hB) b rfl

set_option maxHeartbeats 8000000 in
set_option maxRecDepth 100000 in
theorem rValues_any (b0 : Nat) (n : Int) (bs os cS m : Nat) (s : List Int) (ap : Option Addr) (np cp : Nat) (p : List Int) (ax : Option Addr) (cx : Nat) (x : List Int) (B : Nat) (w : World)
    (hs : Rd w .i64 (some ⟨bs, os, none⟩) (m + 1) s) (hok : okS s) (hm : s.length = m + 1) (hp : Rd w .i64 ap np p) (hnp : cntN s = np) (hn4 : np ≤ 400) (hx : Ow w B 2 .i64 (.slice ax (szN s 0) cx) x) (hxl : x.length = szN s 0)
    (ip : A64 p) (ix : A64 x) (hu : UAt w b0 n) (hB : b0 < B) (hBw : B ≤ w.heap.size) (obs : bs ≠ b0) (oap : ∀ y, ap = some y → y.block ≠ b0) :
    Calls Try.prog 41 #[.agg #[.slice (some ⟨bs, os, none⟩) (m + 1) cS, .slice ap np cp], .pointer (some ⟨b0, 0, none⟩), .slice ax (szN s 0) cx] w fun e w' => ∃ v xs, e = .returned v ∧ w'.ownsRow w.heap.size 53 1 v (m + 1) xs ∧ OwS w' B 2 .i64 xs (vals s p x (m + 1)) ∧ Chg (fun k => k = b0) w w' ∧ UAt w' b0 (cntV n s p x m) := by
  have h6 := hok.2.1
  rw [hm] at h6
  have HS := Lib.hid hs; have HO := Lib.hid hok; have HM := Lib.hid hm; have HP := Lib.hid hp
  have Hnp : Hid (fst s m = np) := Lib.hid (by rw [← hnp]; unfold cntN; rw [hm, Nat.add_sub_cancel])
  have IP := Lib.hid ip; have IX := Lib.hid ix; have HU := Lib.hid hu; have HX := Lib.hid hx; have OAP := Lib.hid oap
  have Hlen : Hid (∀ i, (val s p x i).length = szN s i) := Lib.hid (val_len hxl)
  have Hv0 : Hid (vals s p x 1 = [x]) := Lib.hid rfl
  have hbs : bs < w.heap.size := by obtain ⟨b', o', e, hb, _⟩ := hs.2.2 (by omega); cases e; exact hb
  have hq0 := (hok.szv (i := 0) (by omega)).2
  clear hs hok hm hp hnp ip ix hu hx oap
  have Hxl := Lib.hid hxl
  clear hxl
  generalize hs0 : szN s 0 = q0 at *
  have Hs0 := Lib.hid hs0
  clear hs0
  go_enter Try.func41, Try.ntmps41
  go_wp2
  generalize hWn : w.alloc (.cells #[.slice (some ⟨bs, os, none⟩) (m + 1) cS, .slice ap np cp] 83) = Wn at *
  have hWnz : Wn.heap.size = w.heap.size + 1 := by rw [← hWn]; simp
  have d0 : Wn.cell? ⟨w.heap.size, 0, none⟩ = some (.slice (some ⟨bs, os, none⟩) (m + 1) cS) := by rw [← hWn]; exact World.cell?_alloc_at _ _ _ _ rfl
  have d1 : Wn.cell? ⟨w.heap.size, 1, none⟩ = some (.slice ap np cp) := by rw [← hWn]; exact World.cell?_alloc_at _ _ _ _ rfl
  have HWn : Hid (Below w.heap.size w Wn) := Lib.hid (by rw [← hWn]; (repeat first | assumption | exact Below.refl _ _ | refine Below.drew ?_ | refine Below.drewN ?_ _ | refine Below.alloc ?_ (by (first | omega | (simp; done) | (simp; omega))) _ | refine Below.setCell ?_ (by (first | omega | (simp; done) | (simp; omega))) _ | refine Below.trans ?_ (Below.mono (by assumption) (by (first | omega | (simp; done) | (simp; omega))))))
  clear hWn
  have Hr0 := Lib.hid (World.ownsRow_lit (base := w.heap.size + 1) (size := 1) (e := 53) Wn #[.slice ax q0 cx] 1 (by omega) (by unfold maxLen; omega) rfl)
  have Hos0 : Hid (OwS (Wn.alloc (.cells #[.slice ax q0 cx] 53)) B 2 .i64 [.slice ax q0 cx] [x]) := Lib.hid ⟨rfl, fun i hi => by
    obtain rfl : i = 0 := by simp at hi; omega
    exact Ow.kept (Ow.kept HX.out HWn.out) ((Below.refl _ _).alloc (Nat.le_refl _) _)⟩
  have Hb0 : Hid (Below w.heap.size w (Wn.alloc (.cells #[.slice ax q0 cx] 53))) := Lib.hid (by have := HWn.out; (repeat first | assumption | exact Below.refl _ _ | refine Below.drew ?_ | refine Below.drewN ?_ _ | refine Below.alloc ?_ (by (first | omega | (simp; done) | (simp; omega))) _ | refine Below.setCell ?_ (by (first | omega | (simp; done) | (simp; omega))) _ | refine Below.trans ?_ (Below.mono (by assumption) (by (first | omega | (simp; done) | (simp; omega))))))
  have Hbn : Hid (Below Wn.heap.size Wn (Wn.alloc (.cells #[.slice ax q0 cx] 53))) := Lib.hid (by (repeat first | assumption | exact Below.refl _ _ | refine Below.drew ?_ | refine Below.drewN ?_ _ | refine Below.alloc ?_ (by (first | omega | (simp; done) | (simp; omega))) _ | refine Below.setCell ?_ (by (first | omega | (simp; done) | (simp; omega))) _ | refine Below.trans ?_ (Below.mono (by assumption) (by (first | omega | (simp; done) | (simp; omega))))))
  (try rw [hWnz] at Hr0)
  go_loopw [7, 8] (fun lv k wr => ∃ (i : Nat) (xs : List Value), i ≤ m ∧ k = .int .i64 i ∧ Hid (wr.ownsRow (w.heap.size + 1) 53 1 lv (i + 1) xs) ∧ Hid (OwS wr B 2 .i64 xs (vals s p x (i + 1))) ∧ Hid (Chg (fun k => k = b0) Wn wr) ∧ Hid (UAt wr b0 (cntV n s p x i)) ∧ Hid (wr.cell? ⟨w.heap.size, 0, none⟩ = some (.slice (some ⟨bs, os, none⟩) (m + 1) cS)) ∧ Hid (wr.cell? ⟨w.heap.size, 1, none⟩ = some (.slice ap np cp))) (fun _ k _ => m - (intOf k).toNat)
  case atStart => exact ⟨0, _, Nat.zero_le _, rfl, Hr0.out, by rw [Hv0.out]; exact Hos0.out, Chg.of_below Hbn.out, HU.out.kept Hb0.out, Lib.hid ((Hbn.out.cell (p := ⟨w.heap.size, 0, none⟩) (by show w.heap.size < _; omega)).trans d0), Lib.hid ((Hbn.out.cell (p := ⟨w.heap.size, 1, none⟩) (by show w.heap.size < _; omega)).trans d1)⟩
  case round =>
    obtain ⟨i, xs, hi, rfl, hown, hos, hch, hun, hd0, hd1⟩ := hrel
    clear Hr0 Hos0 Hb0 Hbn
    have c0 := hd0.out
    have c1 := hd1.out
    have hzr := hch.out.size
    by_cases hlt : i < m
    · obtain ⟨e0, q1, q2⟩ := HO.out.szv (i := i) (by rw [HM.out]; omega)
      obtain ⟨e1, r1, r2⟩ := HO.out.szv (i := i + 1) (by rw [HM.out]; omega)
      have HChw : Hid (Chg (fun k => k = b0) w wr) := Lib.hid ((Chg.of_below HWn.out).trans hch.out)
      have HSr : Hid (Rd wr .i64 (some ⟨bs, os, none⟩) (m + 1) s) := Lib.hid (HS.out.chg HChw.out (fun y hy => by cases hy; exact obs))
      have HPr : Hid (Rd wr .i64 ap np p) := Lib.hid (HP.out.chg HChw.out (fun y hy => OAP.out y hy))
      obtain ⟨_, _, ee, _, hcs⟩ := HSr.out.at (i := i) (by omega)
      cases ee
      obtain ⟨_, _, ee, _, hcs1⟩ := HSr.out.at (i := i + 1) (by omega)
      cases ee
      rw [e0] at hcs
      rw [e1] at hcs1
      have Hcs := Lib.hid hcs; have Hcs1 := Lib.hid hcs1
      clear e0 e1 HChw
      obtain ⟨al, cl', rfl, hcl, hal⟩ := ownsRow_form hown.out
      obtain ⟨gl, rfl, hglB, hgl, hcell, _⟩ := ownsRow_at hown.out (i := i) (by omega)
      have hov := hos.out.2 i (by simp [vals])
      rw [vals_last] at hov
      obtain ⟨ai, ci, hxe, _, _⟩ := ownsRow_form hov
      have hln := Hlen.out i
      have hxs : xs[i]? = some (.slice ai (szN s i) ci) := by
        have h3 : i < xs.length := by rw [hos.out.1]; simp [vals]
        rw [List.getElem?_eq_getElem h3] at hxe ⊢
        rw [hln] at hxe
        simpa using hxe
      rw [hxs] at hcell
      have Hai : Hid (Rd wr .i64 ai (szN s i) (val s p x i)) := Lib.hid (by
        rw [hxe, hln] at hov
        have := Ow.rd (n := szN s i) (a := ai) (c := ci) hov (by omega)
        exact this)
      have Hao : Hid (∀ y, ai = some y → y.block ≠ b0) := Lib.hid (fun y hy => by
        rw [hxe] at hov
        have h5 := (World.ownsRow.lt hov y.block (by rw [hy]; rfl)).1
        omega)
      have Hcell := Lib.hid hcell
      have hglb : gl ≠ b0 := by omega
      have hqlen : (val s p x i).length = szN s i := hln
      clear hov hxe hxs hln hcell
      go_wp2
      go_loopw [9, 10] (fun lv k wo => ∃ o : Nat, o ≤ szN s (i + 1) ∧ k = .int .i64 o ∧ Hid (wo.ownsRow wr.heap.size 2 1 lv o (((val s p x (i + 1)).take o).map (Value.int .i64))) ∧ Hid (Chg (fun k => k = b0) wr wo) ∧ Hid (UAt wo b0 (cntL (cntV n s p x i) (sumsO (szN s i) (lA s p i) (lB s p i) (val s p x i) o)))) (fun _ k _ => szN s (i + 1) - (intOf k).toNat)
      case atStart => exact ⟨0, Nat.zero_le _, rfl, Lib.hid (by simpa using World.ownsRow_nil _ _ _ _), Chg.refl _ _, hun.out⟩
      case round =>
        rename World => wo
        obtain ⟨o, ho, rfl, hown2, hch2, hun2⟩ := hrel
        have hz2 := hch2.out.size
        have HSo : Hid (Rd wo .i64 (some ⟨bs, os, none⟩) (m + 1) s) := Lib.hid (HSr.out.chg hch2.out (fun y hy => by cases hy; exact obs))
        have HPo : Hid (Rd wo .i64 ap np p) := Lib.hid (HPr.out.chg hch2.out (fun y hy => OAP.out y hy))
        have c0 : wo.cell? ⟨w.heap.size, 0, none⟩ = some (.slice (some ⟨bs, os, none⟩) (m + 1) cS) := (hch2.out.cell (by omega) (by omega)).trans hd0.out
        have c1 : wo.cell? ⟨w.heap.size, 1, none⟩ = some (.slice ap np cp) := (hch2.out.cell (by omega) (by omega)).trans hd1.out
        have hcs : wo.cell? ⟨bs, os + i, none⟩ = some (.int .i64 (szN s i)) := (hch2.out.cell (by omega) obs).trans Hcs.out
        have hcs1 : wo.cell? ⟨bs, os + (i + 1), none⟩ = some (.int .i64 (szN s (i + 1))) := (hch2.out.cell (by omega) obs).trans Hcs1.out
        have hw4 : IntKind.i64.wrap ((i : Int) + 1) = (i : Int) + 1 := by rw [IntKind.wrap_i64]; omega
        have hlmi1 : (i : Int) + 1 < (m : Int) + 1 := by omega
        have hl1 : (0 : Int) ≤ (i : Int) + 1 := by omega
        have hlmi0 : (i : Int) < (m : Int) + 1 := by omega
        have hl0 : (0 : Int) ≤ (i : Int) := by omega
        by_cases hlt2 : o < szN s (i + 1)
        · have Hf := fst_succ s i
          have Hfm := fst_mono s (i := i + 1) (j := m) (by omega)
          rw [Hnp.out, Hf] at Hfm
          have HOf := Lib.hid (fun w' (hb : Below wo.heap.size wo w') => Offset_any bs os cS m s ap np cp p i o w' (HSo.out.kept hb) HO.out hlt (by omega) (HPo.out.kept hb) (by omega) (by omega) (by omega))
          have hBo := rB_at (s := s) (p := p) (l := i) (j := o) hlt2
          rw [← hBo] at HOf
          have IBo := A64_sub IP.out (fst s i + szN s (i + 1) * szN s i) (fst s i + szN s (i + 1) * szN s i + szN s (i + 1)) o
          change I64 ((lB s p i)[o]?.getD 0) at IBo
          have HAd : Hid (∀ w, Calls Try.prog 69 #[.agg #[.int .u64 0, .int .u64 0, .int .u64 0, .int .u64 0, .int .u64 0, .int .u64 0, .int .u64 0, .int .u64 0, .int .u64 0, .int .u64 0, .int .u64 0, .int .u64 0], .int .i64 ((lB s p i)[o]?.getD 0), .int .i64 1] w fun e w' => ∃ p' n', e = .returned (SG p' n') ∧ SP p' n' (0 + (lB s p i)[o]?.getD 0 * 4294967296) (0 + 39614081257132168796771975168) ∧ Below w.heap.size w w') := Lib.hid (fun w => bAdd1_sp 0 0 ((lB s p i)[o]?.getD 0) 0 0 w SP.zero IBo)
          have Hsum : Hid (sumO (szN s i) (lA s p i) (lB s p i) (val s p x i) o = (lB s p i)[o]?.getD 0 * 4294967296 + dotS (lA s p i) (val s p x i) (o * szN s i) (szN s i)) := Lib.hid rfl
          have HWt := Lib.hid (fun t w' (hb : Below wo.heap.size wo w') (ht : t < szN s i) (hxx : fst s i + o * szN s i + t < np) => Weight_any bs os cS m s ap np cp p i o t w' (HSo.out.kept hb) HO.out hlt (by omega) (by omega) (HPo.out.kept hb) hxx (by omega))
          clear hBo IBo Hf
          generalize hz0 : (lB s p i)[o]?.getD 0 = z0 at *
          unfold SG SGc at HAd
          go_wp2_with first
            | ((with_reducible refine (HOf.out _ (by (repeat first | assumption | exact Below.refl _ _ | refine Below.drew ?_ | refine Below.drewN ?_ _ | refine Below.alloc ?_ (by (first | omega | (simp; done) | (simp; omega))) _ | refine Below.setCell ?_ (by (first | omega | (simp; done) | (simp; omega))) _ | refine Below.trans ?_ (Below.mono (by assumption) (by (first | omega | (simp; done) | (simp; omega))))))).mono ?_); rintro e w4 ⟨rfl, hb4⟩; have z4 := hb4.size)
            | ((with_reducible refine (HAd.out _).mono ?_); rintro e w5 ⟨p', n', rfl, hsp, hb5⟩; have z5 := hb5.size)
            | fail
          have HSG : Hid (SGAt (w5.alloc (.cells (SGc p' n') 147)) w5.heap.size p' n') := Lib.hid (SGAt.alloc _ _ _)
          have HSP : Hid (SP p' n' (z0 * 4294967296) 39614081257132168796771975168) := Lib.hid (by rw [Int.zero_add, Int.zero_add] at hsp; exact hsp)
          have HWg : Hid (Below wo.heap.size wo (w5.alloc (.cells (SGc p' n') 147))) := Lib.hid (by (repeat first | assumption | exact Below.refl _ _ | refine Below.drew ?_ | refine Below.drewN ?_ _ | refine Below.alloc ?_ (by (first | omega | (simp; done) | (simp; omega))) _ | refine Below.setCell ?_ (by (first | omega | (simp; done) | (simp; omega))) _ | refine Below.trans ?_ (Below.mono (by assumption) (by (first | omega | (simp; done) | (simp; omega))))))
          have hgo : wo.heap.size ≤ w5.heap.size := by omega
          have hWgz : w5.heap.size < (w5.alloc (.cells (SGc p' n') 147)).heap.size := by simp
          unfold SGc at HSG HWg hWgz
          clear hb4 hb5 HOf HAd hsp
          have Hold : Hid (∀ k j, k < wr.heap.size → k ≠ b0 → (w5.alloc (.cells (SGc p' n') 147)).cell? ⟨k, j, none⟩ = wr.cell? ⟨k, j, none⟩) := Lib.hid (fun k j hk hkb => (HWg.out.cell (p := ⟨k, j, none⟩) (by show k < _; omega)).trans (hch2.out.cell hk hkb))
          unfold SGc at Hold
          generalize hWg : w5.alloc (.cells #[.int .u64 (dg p' 0), .int .u64 (dg p' 1), .int .u64 (dg p' 2), .int .u64 (dg p' 3), .int .u64 (dg p' 4), .int .u64 (dg p' 5), .int .u64 (dg n' 0), .int .u64 (dg n' 1), .int .u64 (dg n' 2), .int .u64 (dg n' 3), .int .u64 (dg n' 4), .int .u64 (dg n' 5)] 147) = Wg at *
          clear hWg c0 c1 hcs hcs1
          have hqo : o * szN s i + szN s i ≤ szN s (i + 1) * szN s i := by
            have h5 : (o + 1) * szN s i ≤ szN s (i + 1) * szN s i := Nat.mul_le_mul_right _ (by omega)
            rw [Nat.add_mul] at h5; omega
          go_loopw [12] (fun j wi => ∃ (t : Nat) (p1 n1 : Int), t ≤ szN s i ∧ j = .int .i64 t ∧ Hid (SGAt wi w5.heap.size p1 n1) ∧ Hid (SP p1 n1 (z0 * 4294967296 + dotS (lA s p i) (val s p x i) (o * szN s i) t) (39614081257132168796771975168 + t * 85070591730234615865843651857942052864)) ∧ Hid (Chg (fun k => k = w5.heap.size) Wg wi)) (fun j _ => szN s i - (intOf j).toNat)
          case atStart => exact ⟨0, p', n', Nat.zero_le _, rfl, HSG.out, Lib.hid (by simpa [dotS] using HSP.out), Chg.refl _ _⟩
          case round =>
            rename World => wi
            obtain ⟨t, p1, n1, ht, rfl, hsg, hsp1, hcg⟩ := hrel
            have hzi := hcg.out.size
            have c0 : wi.cell? ⟨w.heap.size, 0, none⟩ = some (.slice (some ⟨bs, os, none⟩) (m + 1) cS) := (hcg.out.cell (k := w.heap.size) (by omega) (by omega)).trans ((Hold.out _ _ (by omega) (by omega)).trans hd0.out)
            have c1 : wi.cell? ⟨w.heap.size, 1, none⟩ = some (.slice ap np cp) := (hcg.out.cell (k := w.heap.size) (by omega) (by omega)).trans ((Hold.out _ _ (by omega) (by omega)).trans hd1.out)
            have hcs : wi.cell? ⟨bs, os + i, none⟩ = some (.int .i64 (szN s i)) := (hcg.out.cell (k := bs) (by omega) (by omega)).trans ((Hold.out _ _ (by omega) obs).trans Hcs.out)
            by_cases hlt3 : t < szN s i
            · have hca : wi.cell? ⟨gl, i, none⟩ = some (.slice ai (szN s i) ci) := (hcg.out.cell (k := gl) (by omega) (by omega)).trans ((Hold.out _ _ hgl hglb).trans Hcell.out)
              obtain ⟨ba, oa, rfl, hba, hcx0⟩ := Hai.out.at hlt3
              have hbab : ba ≠ b0 := Hao.out _ rfl
              have hcx : wi.cell? ⟨ba, oa + t, none⟩ = some (.int .i64 ((val s p x i)[t]?.getD 0)) := (hcg.out.cell (k := ba) (by omega) (by omega)).trans ((Hold.out _ _ hba hbab).trans hcx0)
              have hBi : Hid (Below wo.heap.size wo wi) := Lib.hid (HWg.out.trans (hcg.out.below (by omega) (by rintro k rfl; exact hgo)))
              have HW1 := Lib.hid (fun w' hb => HWt.out t w' hb hlt3 (by omega))
              have hAt := rA_at (s := s) (p := p) (l := i) (j := o * szN s i + t) (by omega)
              rw [← Nat.add_assoc] at hAt
              rw [← hAt] at HW1
              have IA1 := A64_sub IP.out (fst s i) (fst s i + szN s (i + 1) * szN s i) (o * szN s i + t)
              change I64 ((lA s p i)[o * szN s i + t]?.getD 0) at IA1
              have Hd : Hid (z0 * 4294967296 + dotS (lA s p i) (val s p x i) (o * szN s i) t + (lA s p i)[o * szN s i + t]?.getD 0 * (val s p x i)[t]?.getD 0 = z0 * 4294967296 + dotS (lA s p i) (val s p x i) (o * szN s i) (t + 1)) := Lib.hid (by simp only [dotS]; omega)
              have HMu := Lib.hid (fun w => bMul_sp p1 n1 ((lA s p i)[o * szN s i + t]?.getD 0) ((val s p x i)[t]?.getD 0) _ _ w hsp1.out IA1 (A64_val IX.out i t))
              rw [Hd.out] at HMu
              have hwt : IntKind.i64.wrap ((t : Int) + 1) = (t : Int) + 1 := by rw [IntKind.wrap_i64]; omega
              have hi0 : (0 : Int) ≤ (i : Int) := by omega
              have hi1 : (i : Int) < (i : Int) + 1 := by omega
              have ht0 : (0 : Int) ≤ (t : Int) := by omega
              have hti : (t : Int) < (szN s i : Int) := by omega
              obtain ⟨b_0, b_1, b_2, b_3, b_4, b_5, b_6, b_7, b_8, b_9, b_10, b_11, bf⟩ := hsg.out
              clear hcx0 hAt IA1
              generalize (lA s p i)[o * szN s i + t]?.getD 0 = zA at *
              generalize (val s p x i)[t]?.getD 0 = zx at *
              unfold SG SGc at HMu
              go_wp2
              go_region_with (first
                | ((with_reducible refine (HW1.out _ (by have := hBi.out; (repeat first | assumption | exact Below.refl _ _ | refine Below.drew ?_ | refine Below.drewN ?_ _ | refine Below.alloc ?_ (by (first | omega | (simp; done) | (simp; omega))) _ | refine Below.setCell ?_ (by (first | omega | (simp; done) | (simp; omega))) _ | refine Below.trans ?_ (Below.mono (by assumption) (by (first | omega | (simp; done) | (simp; omega))))))).mono ?_); rintro e w6 ⟨rfl, hb6⟩; have z6 := hb6.size; (try simp at z6); have k6 := hsg.out.kept (w' := w6) (by (repeat first | assumption | exact Below.refl _ _ | refine Below.drew ?_ | refine Below.drewN ?_ _ | refine Below.alloc ?_ (by (first | omega | (simp; done) | (simp; omega))) _ | refine Below.setCell ?_ (by (first | omega | (simp; done) | (simp; omega))) _ | refine Below.trans ?_ (Below.mono (by assumption) (by (first | omega | (simp; done) | (simp; omega)))))); obtain ⟨_, _, _, _, _, _, _, _, _, _, _, _, f6⟩ := k6; have s6 : w6.cell? ⟨gl, i, none⟩ = some (.slice (some ⟨ba, oa, none⟩) (szN s i) ci) ∧ w6.cell? ⟨ba, oa + t, none⟩ = some (.int .i64 zx) := ⟨(hb6.cell (p := ⟨gl, i, none⟩) (by simp; omega)).trans (by go_simp), (hb6.cell (p := ⟨ba, oa + t, none⟩) (by simp; omega)).trans (by go_simp)⟩)
                | ((with_reducible refine (HMu.out _).mono ?_); rintro e w7 ⟨p2, n2, rfl, hsp2, hb7⟩; have z7 := hb7.size; (try simp at z7); have k7 := hsg.out.kept (w' := w7) (by (repeat first | assumption | exact Below.refl _ _ | refine Below.drew ?_ | refine Below.drewN ?_ _ | refine Below.alloc ?_ (by (first | omega | (simp; done) | (simp; omega))) _ | refine Below.setCell ?_ (by (first | omega | (simp; done) | (simp; omega))) _ | refine Below.trans ?_ (Below.mono (by assumption) (by (first | omega | (simp; done) | (simp; omega)))))); have k7' := k7; obtain ⟨_, _, _, _, _, _, _, _, _, _, _, _, f7⟩ := k7'))
              all_goals
                have HS8 : Hid (SGAt (set12 w7 w5.heap.size p2 n2) w5.heap.size p2 n2) := Lib.hid (k7.set p2 n2)
                have HC8 : Hid (Chg (fun k => k = w5.heap.size) Wg (set12 w7 w5.heap.size p2 n2)) := Lib.hid (Chg.set12 (by have := hcg.out; (repeat first | assumption | exact Chg.refl _ _ | refine Chg.drew ?_ | refine Chg.drewN ?_ _ | refine Chg.alloc ?_ _ | refine Chg.setCell_in ?_ _ (by first | rfl | simp) _ | refine Chg.setCell ?_ _ (by (first | omega | (simp; done) | (simp; omega))) _ | refine Chg.then_below ?_ (by assumption) (by (first | omega | (simp; done) | (simp; omega))))))
                have HP8 := Lib.hid hsp2
                unfold set12 at HS8 HC8
                unfold set6N set6 at HS8 HC8
                clear hb6 hb7 k7 f6 f7 hsp2 s6 HMu HW1 b_0 b_1 b_2 b_3 b_4 b_5 b_6 b_7 b_8 b_9 b_10 b_11 bf
                go_wp2
                go_roundw
                case rel => exact ⟨t + 1, p2, n2, by omega, by go_num, HS8.out, Lib.hid (by have h9 := HP8.out; unfold SP at h9 ⊢; omega), HC8.out⟩
                case measure => simp [intOf]; omega
            · obtain rfl : t = szN s i := by omega
              have hBi : Hid (Below wo.heap.size wo wi) := Lib.hid (HWg.out.trans (hcg.out.below (by omega) (by rintro k rfl; exact hgo)))
              have Hlenw : Hid (wi.cell? ⟨w.heap.size, 0, none⟩ = some (.slice (some ⟨bs, os, none⟩) (m + 1) cS)) := Lib.hid c0
              have Hu1 : Hid (UAt wi b0 (cntL (cntV n s p x i) (sumsO (szN s i) (lA s p i) (lB s p i) (val s p x i) o))) := Lib.hid (hun2.out.kept hBi.out)
              have HRn := Lib.hid (fun w => bRound32_sp p1 n1 _ _ w hsp1.out (by omega))
              have Hsucc := Lib.hid (sumsO_succ (szN s i) (lA s p i) (lB s p i) (val s p x i) o)
              rw [← Hsum.out] at HRn
              have hyo : Hid ((val s p x (i + 1))[o]?.getD 0 = if i + 1 < m then relu1 (near32 (sumO (szN s i) (lA s p i) (lB s p i) (val s p x i) o)) else near32 (sumO (szN s i) (lA s p i) (lB s p i) (val s p x i) o)) := Lib.hid (by
                have h8 : (val s p x (i + 1)) = if i + 1 < m then relu ((sumsO (szN s i) (lA s p i) (lB s p i) (val s p x i) (szN s (i + 1))).map near32) else (sumsO (szN s i) (lA s p i) (lB s p i) (val s p x i) (szN s (i + 1))).map near32 := by
                  simp only [val, HM.out]
                  by_cases h8 : i + 1 < m
                  · rw [if_pos h8, if_pos (by omega)]
                  · rw [if_neg h8, if_neg (by omega)]
                rw [h8]
                split
                · simp [relu, sumsO, List.getElem?_map, List.getElem?_range hlt2]
                · simp [sumsO, List.getElem?_map, List.getElem?_range hlt2])
              have hylen := Hlen.out (i + 1)
              have Htake : Hid ((val s p x (i + 1)).take (o + 1) = (val s p x (i + 1)).take o ++ [(val s p x (i + 1))[o]?.getD 0]) := Lib.hid (by
                have h9 : o < (val s p x (i + 1)).length := by omega
                rw [List.take_succ_eq_append_getElem h9, List.getElem?_eq_getElem h9, Option.getD_some])
              rw [hyo.out] at Htake
              have hw5 : IntKind.i64.wrap ((i : Int) + 2) = (i : Int) + 2 := by rw [IntKind.wrap_i64]; omega
              have hwo1 : IntKind.i64.wrap ((o : Int) + 1) = (o : Int) + 1 := by rw [IntKind.wrap_i64]; omega
              generalize hz : sumO (szN s i) (lA s p i) (lB s p i) (val s p x i) o = z at *
              obtain ⟨b_0, b_1, b_2, b_3, b_4, b_5, b_6, b_7, b_8, b_9, b_10, b_11, bf⟩ := hsg.out
              unfold SG SGc at HRn
              have HTk := Lib.hid (fun w' h => rTake_any b0 (cntL (cntV n s p x i) (sumsO (szN s i) (lA s p i) (lB s p i) (val s p x i) o)) (clampI (rne z 4294967296)) (over (rne z 4294967296)) w' h)
              go_wp2_with fail
              (with_reducible refine (HRn.out _).mono ?_)
              rintro e w6 ⟨rfl, hb6⟩
              have z6 := hb6.size
              go_wp2_with fail
              (with_reducible refine (HTk.out _ (Hu1.out.kept hb6)).mono ?_)
              rintro e w7 ⟨rfl, hc7, hu7⟩
              have z7 := hc7.size
              have HC7 : Hid (Chg (fun k => k = b0) wr w7) := Lib.hid ((hch2.out.trans (Chg.of_below (hBi.out.trans (hb6.mono (by omega))))).trans hc7)
              have Hown7 := Lib.hid (ownsRow_chg (ownsRow_kept hown2.out (hBi.out.trans (hb6.mono (by omega)))) hc7 (by rintro k rfl; omega))
              have Hu7 : Hid (UAt w7 b0 (cntL (cntV n s p x i) (sumsO (szN s i) (lA s p i) (lB s p i) (val s p x i) (o + 1)))) := Lib.hid (by rw [Hsucc.out, cntL_snoc]; exact hu7)
              have c0' : w7.cell? ⟨w.heap.size, 0, none⟩ = some (.slice (some ⟨bs, os, none⟩) (m + 1) cS) := (hc7.cell (by omega) (by omega)).trans ((hb6.cell (p := ⟨w.heap.size, 0, none⟩) (by show w.heap.size < _; omega)).trans c0)
              clear hb6 hc7 hu7 hz b_0 b_1 b_2 b_3 b_4 b_5 b_6 b_7 b_8 b_9 b_10 b_11 bf c0 c1 hcs
              by_cases hneg : clampI (rne z 4294967296) < 0
              · by_cases hl2 : i + 1 < m
                · have hl2i : (i : Int) + 2 < (m : Int) + 1 := by omega
                  have he : (if i + 1 < m then relu1 (near32 z) else near32 z) = 0 := by rw [if_pos hl2]; unfold relu1 near32; rw [if_pos hneg]
                  rw [he] at Htake
                  clear he
                  go_wp2_with (at_builtin; refine wpl_app1 eIs rfl _ _ rfl wr.heap.size _ o _ rfl (Hown7.out.alloc _) w7.heap.size (.int .i64 0) rfl (World.cell?_alloc_at _ _ _ _ rfl) rfl ?c3 ?c4 ?c5 ?_)
                  case c3 => unfold maxLen; omega
                  case c4 => omega
                  case c5 => first | omega | (simp; omega)
                  intro v9 w9 hown9 hg9
                  have Hch9 := Lib.hid (Chg.grownOf (HC7.out.alloc _) (Hown7.out.alloc _) hg9 (Nat.le_refl _))
                  have Hu9 := Lib.hid (UAt.grown (Hu7.out.kept ((Below.refl _ _).alloc (Nat.le_refl _) _)) (Hown7.out.alloc _) hg9 (by omega))
                  have Hown9 := Lib.hid hown9
                  clear hown9 hg9
                  go_wp2
                  go_roundw
                  case rel => exact ⟨o + 1, by omega, by go_num, Lib.hid (by rw [Htake.out]; simpa using Hown9.out), Hch9.out, Hu9.out⟩
                  case measure => simp [intOf]; omega
                · have hl2i : ¬ ((i : Int) + 2 < (m : Int) + 1) := by omega
                  have he : (if i + 1 < m then relu1 (near32 z) else near32 z) = clampI (rne z 4294967296) := by rw [if_neg hl2]; rfl
                  rw [he] at Htake
                  clear he
                  go_wp2_with (at_builtin; refine wpl_app1 eIs rfl _ _ rfl wr.heap.size _ o _ rfl (Hown7.out.alloc _) w7.heap.size (.int .i64 (clampI (rne z 4294967296))) rfl (World.cell?_alloc_at _ _ _ _ rfl) rfl ?c3 ?c4 ?c5 ?_)
                  case c3 => unfold maxLen; omega
                  case c4 => omega
                  case c5 => first | omega | (simp; omega)
                  intro v9 w9 hown9 hg9
                  have Hch9 := Lib.hid (Chg.grownOf (HC7.out.alloc _) (Hown7.out.alloc _) hg9 (Nat.le_refl _))
                  have Hu9 := Lib.hid (UAt.grown (Hu7.out.kept ((Below.refl _ _).alloc (Nat.le_refl _) _)) (Hown7.out.alloc _) hg9 (by omega))
                  have Hown9 := Lib.hid hown9
                  clear hown9 hg9
                  go_wp2
                  go_roundw
                  case rel => exact ⟨o + 1, by omega, by go_num, Lib.hid (by rw [Htake.out]; simpa using Hown9.out), Hch9.out, Hu9.out⟩
                  case measure => simp [intOf]; omega
              · have he : (if i + 1 < m then relu1 (near32 z) else near32 z) = clampI (rne z 4294967296) := by unfold relu1 near32; rw [if_neg hneg]; simp
                rw [he] at Htake
                clear he
                go_wp2_with (at_builtin; refine wpl_app1 eIs rfl _ _ rfl wr.heap.size _ o _ rfl (Hown7.out.alloc _) w7.heap.size (.int .i64 (clampI (rne z 4294967296))) rfl (World.cell?_alloc_at _ _ _ _ rfl) rfl ?c3 ?c4 ?c5 ?_)
                case c3 => unfold maxLen; omega
                case c4 => omega
                case c5 => first | omega | (simp; omega)
                intro v9 w9 hown9 hg9
                have Hch9 := Lib.hid (Chg.grownOf (HC7.out.alloc _) (Hown7.out.alloc _) hg9 (Nat.le_refl _))
                have Hu9 := Lib.hid (UAt.grown (Hu7.out.kept ((Below.refl _ _).alloc (Nat.le_refl _) _)) (Hown7.out.alloc _) hg9 (by omega))
                have Hown9 := Lib.hid hown9
                clear hown9 hg9
                go_wp2
                go_roundw
                case rel => exact ⟨o + 1, by omega, by go_num, Lib.hid (by rw [Htake.out]; simpa using Hown9.out), Hch9.out, Hu9.out⟩
                case measure => simp [intOf]; omega
        · obtain rfl : o = szN s (i + 1) := by omega
          have hylen := Hlen.out (i + 1)
          have Hv1 : Hid ((val s p x (i + 1)).take (szN s (i + 1)) = val s p x (i + 1)) := Lib.hid (List.take_of_length_le (by omega))
          rw [Hv1.out] at hown2
          obtain ⟨av, cv, rfl, _⟩ := ownsRow_form hown2.out
          have HC7 : Hid (Chg (fun k => k = b0) Wn wo) := Lib.hid (hch.out.trans hch2.out)
          have Hown7 := Lib.hid (ownsRow_chg hown.out hch2.out (by rintro k rfl; omega))
          have Hos7 : Hid (OwS wo B 2 .i64 xs (vals s p x (i + 1))) := Lib.hid (hos.out.chg hch2.out (by rintro k rfl; omega))
          have Hov7 : Hid (Ow wo B 2 .i64 (.slice av (szN s (i + 1)) cv) (val s p x (i + 1))) := Lib.hid (Ow.mono (Ow.of hown2.out) (by omega))
          have Hu7 : Hid (UAt wo b0 (cntV n s p x (i + 1))) := Lib.hid (by simp only [cntV]; exact hun2.out)
          have Hd0 : Hid (wo.cell? ⟨w.heap.size, 0, none⟩ = some (.slice (some ⟨bs, os, none⟩) (m + 1) cS)) := Lib.hid c0
          have Hd1 : Hid (wo.cell? ⟨w.heap.size, 1, none⟩ = some (.slice ap np cp)) := Lib.hid c1
          go_wp2_with (at_builtin; refine wpl_app1 eIss rfl _ _ rfl (w.heap.size + 1) _ (i + 1) _ rfl (Hown7.out.alloc _) wo.heap.size (.slice av (szN s (i + 1)) cv) rfl (World.cell?_alloc_at _ _ _ _ rfl) rfl ?c3 ?c4 ?c5 ?_)
          case c3 => unfold maxLen; omega
          case c4 => omega
          case c5 => simp; omega
          intro v9 w9 hown9 hg9
          have Hch9 := Lib.hid (Chg.grownOf (HC7.out.alloc _) (Hown7.out.alloc _) hg9 (by omega))
          have Hu9 := Lib.hid (UAt.grown (Hu7.out.kept ((Below.refl _ _).alloc (Nat.le_refl _) _)) (Hown7.out.alloc _) hg9 (by omega))
          have Hos9 := Lib.hid (((Hos7.out.snoc Hov7.out).kept ((Below.refl wo.heap.size wo).alloc (Nat.le_refl _) (.cells #[.slice av (szN s (i + 1)) cv] 53))).grown (Hown7.out.alloc _) hg9 (by decide))
          have hgc : ∀ j, (w9.cell? ⟨w.heap.size, j, none⟩) = wo.cell? ⟨w.heap.size, j, none⟩ := fun j => by
            have h1 : (wo.alloc (.cells #[.slice av (szN s (i + 1)) cv] 53)).cell? ⟨w.heap.size, j, none⟩ = wo.cell? ⟨w.heap.size, j, none⟩ := World.cell?_alloc_past _ _ _ (by omega)
            rw [← h1]
            exact World.cell?_of_block (hg9.block _ (by simp; omega) (by show some w.heap.size ≠ some gl; simp; omega))
          have Hd9 : Hid (w9.cell? ⟨w.heap.size, 0, none⟩ = some (.slice (some ⟨bs, os, none⟩) (m + 1) cS)) := Lib.hid ((hgc 0).trans Hd0.out)
          have He9 : Hid (w9.cell? ⟨w.heap.size, 1, none⟩ = some (.slice ap np cp)) := Lib.hid ((hgc 1).trans Hd1.out)
          have Hown9 := Lib.hid hown9
          clear hown9 hg9 hgc
          go_wp2
          go_roundw
          case rel => exact ⟨i + 1, _, by omega, by go_num, Hown9.out, Lib.hid (by rw [vals_succ s p x (i + 1)]; exact Hos9.out), Hch9.out, Hu9.out, Hd9, He9⟩
          case measure => simp [intOf]; omega
    · obtain rfl : i = m := by omega
      go_wp2
      go_ret
      exact ⟨_, _, rfl, ownsRow_mono hown.out (Nat.le_succ _), hos.out, (Chg.of_below HWn.out).trans hch.out, hun.out⟩
end Go.Proofs.Ytdamenbpgkhiiaa
