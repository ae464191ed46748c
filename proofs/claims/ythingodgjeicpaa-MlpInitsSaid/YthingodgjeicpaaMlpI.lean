/-
  Layer mlp: the gradient: the walk.
-/
import Derived.Test.YthingodgjeicpaaMlpH
namespace Go.Proofs.Ythingodgjeicpaa
open Go.RowKit
set_option linter.unusedVariables false
set_option linter.unusedSimpArgs false

theorem upon_of {P : Program} {o : Oper} {a : Act} {next : Act → World → Prop} {Q : Exit → Act → World → Prop} {r : Result Next} {w' : World} {f : FuncId} {args : Array Value} (hr : r = .ok (.enter f args) w')
    (h : Calls P f args w' fun
      | .returned v, w'' => next (a.put o.dst v) w''
      | .panicked chain, w'' => Q (.panic chain) a w''
      | .outgrown, _ => LetsOut Q) : Oper.upon P o a next Q r := by
  rw [hr, Oper.upon_enter]
  exact h
theorem eFss1 : ∃ i0, Try.prog.info? 26 = some i0 ∧ i0.zero = some (.slice none 0 0) ∧ i0.size = 1 ∧ i0.bytes = 24 := info_parts eFss.inf
theorem made_nil : ∀ m, m ≤ 5 → (madeCells #[Value.slice none 0 0] m).toList = List.replicate m (.slice none 0 0)
  | 0, _ => by kernel_rfl
  | 1, _ => by kernel_rfl
  | 2, _ => by kernel_rfl
  | 3, _ => by kernel_rfl
  | 4, _ => by kernel_rfl
  | 5, _ => by kernel_rfl
  | m + 6, h => absurd h (by omega)

/-- A row of another type beside one that grows. -/
theorem kept_two {w W w6 : World} {B B' : Nat} {E E' : TypeId} {vP v : Value} {nP n : Nat} {xs ys : List Value} (hP : w.ownsRow B E 1 vP nP xs) (hv : w.ownsRow B' E' 1 v n ys) (hne : E ≠ E') (hb : Below w.heap.size w W) (hg : W.grownBy w6 v.ownBlock) : w6.ownsRow B E 1 vP nP xs :=
  World.ownsRow.kept (ownsRow_kept hP hb) hg (own_ne hP hv hne)
theorem chg_two {S : Nat → Prop} {a w W w6 : World} {B' : Nat} {E' : TypeId} {v : Value} {n : Nat} {ys : List Value} (h : Chg S a w) (hv : w.ownsRow B' E' 1 v n ys) (hB : a.heap.size ≤ B') (hb : Below w.heap.size w W) (hg : W.grownBy w6 v.ownBlock) : Chg S a w6 :=
  Chg.grownOf (h.then_below hb h.size) (ownsRow_kept hv hb) hg hB
/-- One of many owned slices, as it is read. -/
theorem OwS.rd {w : World} {B : Nat} {E : TypeId} {xs : List Value} {ll : List (List Int)} (h : OwS w B E .i64 xs ll) {i n : Nat} (hi : i < ll.length) (hn : (ll[i]?.getD []).length = n) (hm : n ≤ 140737488351232) :
    ∃ a c, xs[i]? = some (.slice a n c) ∧ Rd w .i64 a n (ll[i]?.getD []) ∧ (∀ y, a = some y → B ≤ y.block ∧ y.block < w.heap.size) := by
  have hov := h.2 i hi
  obtain ⟨a, c, hx, _, ha⟩ := ownsRow_form hov
  have h3 : i < xs.length := by rw [h.1]; exact hi
  subst hn
  refine ⟨a, c, ?_, ?_, fun y hy => ⟨(ha y hy).1, (ha y hy).2.1⟩⟩
  · rw [List.getElem?_eq_getElem h3] at hx ⊢
    simpa using hx
  · rw [hx] at hov
    exact Ow.rd (a := a) (c := c) hov hm

set_option maxHeartbeats 8000000 in
set_option maxRecDepth 100000 in
theorem gradient_any (g cl m b o np : Nat) (s p : List Int) (ax : Option Addr) (nx cx : Nat) (x : List Int) (aT : Option Addr) (nt cT : Nat) (t : List Int) (w : World)
    (hg : g < w.heap.size) (hL : LaysAt w g b o s m) (hs : okS s) (hm : s.length = m + 1) (hp : Rd w .i64 (some ⟨b, o, none⟩) np p) (hnp : cntN s = np) (hx : Rd w .i64 ax nx x) (hnx : nx = szN s 0)
    (hnone : ax = none → cx = 0) (ip : A64 p) (ix : A64 x) (ht : Rd w .i64 aT nt t) (hnt : nt = szN s m) (it : A64 t) :
    Calls Try.prog 25 #[.pointer none, .iface 96 (.agg #[]), .slice (some ⟨g, 0, none⟩) m cl, .agg #[.slice ax nx cx, .slice aT nt cT]] w fun e w' => ∃ v, e = .returned (.tuple #[v, .int .i64 (sqFar (val s p x m) t nt)]) ∧ Ow w' w.heap.size 38 .i64 v (gradS s p x t m) ∧ Below w.heap.size w w' := by
  obtain ⟨i0, hi, hz0, hz1, hz2⟩ := eFss1
  have h2 := hs.1
  have h6 := hs.2.1
  rw [hm] at h2 h6
  have hntb : 1 ≤ nt ∧ nt ≤ 64 := by have := hs.szv (i := m) (by omega); omega
  have HV := Lib.hid (fun w' (hb' : Below w.heap.size w w') => values_any none 0 g cl m b o np s p ax nx cx x w' (Nat.lt_of_lt_of_le hg hb'.size) (fun i hi t ht => (hb'.cell (p := ⟨g, i * 4 + t, none⟩) hg).trans (hL i hi t ht)) hs hm (hp.kept hb') hnp (hx.kept hb') hnx hnone (fun h => by cases h) (fun h => by cases h) ip ix (Un.none _ _))
  rw [show uV none = .pointer none from rfl] at HV
  have Hvl := Lib.hid (val_len (s := s) (p := p) (x := x) (by rw [hx.1, hnx]))
  have IV := Lib.hid (fun i => A64_val (s := s) (p := p) ix i)
  have HT := Lib.hid ht
  have IT := Lib.hid it
  have HS := Lib.hid hs
  have HM := Lib.hid hm
  have HL := Lib.hid hL
  have HP := Lib.hid hp
  have IP := Lib.hid ip
  have Hnp : Hid (fst s m = np) := Lib.hid (by rw [← hnp]; unfold cntN; rw [hm, Nat.add_sub_cancel])
  have Hnt := Lib.hid hnt
  clear hL hs hm hp hnp hx hnx hnone ip ix ht hnt it
  go_enter Try.func25, Try.ntmps25
  go_wp2_with fail
  ((with_reducible refine (HV.out _ (by (repeat first | assumption | exact Below.refl _ _ | refine Below.drew ?_ | refine Below.drewN ?_ _ | refine Below.alloc ?_ (by (first | omega | (simp; done) | (simp; omega))) _ | refine Below.setCell ?_ (by (first | omega | (simp; done) | (simp; omega))) _ | refine Below.trans ?_ (Below.mono (by assumption) (by (first | omega | (simp; done) | (simp; omega))))))).mono ?_); rintro e w1 ⟨v1, xv, rfl, hrow1, hos1, hc1, _⟩)
  have hb1 := hc1.below (Nat.le_refl _) (fun k hk => by cases hk)
  obtain ⟨hcc1, hff1⟩ := bcell hb1
  have hz1' := hb1.size
  simp at hz1' hcc1 hff1
  have hx1 : w1.cell? ⟨w.heap.size, 1, none⟩ = some (.slice aT nt cT) := by rw [hcc1 _ _ (by omega)]; go_simp
  have Hb1 : Hid (Below w.heap.size w w1) := Lib.hid (by (repeat first | assumption | exact Below.refl _ _ | refine Below.drew ?_ | refine Below.drewN ?_ _ | refine Below.alloc ?_ (by (first | omega | (simp; done) | (simp; omega))) _ | refine Below.setCell ?_ (by (first | omega | (simp; done) | (simp; omega))) _ | refine Below.trans ?_ (Below.mono (by assumption) (by (first | omega | (simp; done) | (simp; omega))))))
  obtain ⟨av, cv, rfl, hcv, hav⟩ := ownsRow_form hrow1
  obtain ⟨gv, rfl, hgvB, hgv, hcm, _⟩ := ownsRow_at hrow1 (i := m) (by omega)
  obtain ⟨ay, cy, hxm, hry, hayb⟩ := hos1.rd (i := m) (n := nt) (by simp [vals]) (by rw [vals_last, Hvl.out, Hnt.out]) (by omega)
  rw [vals_last] at hry
  rw [hxm] at hcm
  have Hry := Lib.hid hry
  have Hrow1 := Lib.hid hrow1
  have Hos1 := Lib.hid hos1
  clear hrow1 hos1 hc1 hb1 hcc1 hff1 hav hgvB hayb hry hxm
  go_wp2_with fail
  have HFar := Lib.hid (sqFar_any none 0 nt cy cT ay aT (val s p x m) t w1 Hry.out (HT.out.kept Hb1.out) (by omega) (IV.out m) IT.out (Un.none _ _) (fun _ _ _ h => by cases h) (fun _ _ _ h => by cases h))
  rw [show uV none = .pointer none from rfl] at HFar
  refine upon_of (f := 109) (args := #[.agg #[], .pointer none, .slice ay nt cy, .slice aT nt cT]) (w' := w1) (by kernel_rfl) ?_
  ((with_reducible refine (HFar.out).mono ?_); rintro e w2 ⟨rfl, hc2, _⟩)
  have hb2 := hc2.below (Nat.le_refl _) (fun k hk => by cases hk)
  have hx2 : w2.cell? ⟨w.heap.size, 1, none⟩ = some (.slice aT nt cT) := (hb2.cell (p := ⟨w.heap.size, 1, none⟩) (by show w.heap.size < _; omega)).trans hx1
  have Hb12 := Lib.hid hb2
  have Hb2 := Lib.hid (Hb1.out.trans (hb2.mono (by omega)))
  have hz2' := hb2.size
  clear hc2 hb2 HFar
  go_wp2_with fail
  have HSl := Lib.hid (sqSlope_any none 0 nt cy cT ay aT (val s p x m) t w2 (Hry.out.kept Hb12.out) (HT.out.kept Hb2.out) (by omega) (IV.out m) IT.out (Un.none _ _) (fun _ _ _ h => by cases h) (fun _ _ _ h => by cases h))
  rw [show uV none = .pointer none from rfl] at HSl
  refine upon_of (f := 110) (args := #[.agg #[], .pointer none, .slice ay nt cy, .slice aT nt cT]) (w' := w2) (by kernel_rfl) ?_
  ((with_reducible refine (HSl.out).mono ?_); rintro e wS ⟨sv0, rfl, ho3, hc3, _⟩)
  have hb3 := hc3.below (Nat.le_refl _) (fun k hk => by cases hk)
  have Hb13 := Lib.hid (Hb12.out.trans (hb3.mono (by omega)))
  have HbS := Lib.hid (Hb2.out.trans (hb3.mono (by omega)))
  have hzS := hb3.size
  have Hs0 : Hid (Ow wS w.heap.size 38 .i64 sv0 (slv s p x t m 0)) := Lib.hid (by simp only [slv]; rw [← Hnt.out]; exact ho3.mono (by omega))
  have HrowS := Lib.hid (ownsRow_kept Hrow1.out Hb13.out)
  have HosS := Lib.hid (Hos1.out.kept Hb13.out)
  clear hc3 hb3 ho3 HSl hx1 hx2 hcm
  go_wp2_with (at_make; refine wpList_make_full _ rfl _ _ 66 rfl wS.heap.size 26 i0 (.slice none 0 0) 1 eFss.und hi hz0 hz1 _ _ _ _ m rfl rfl rfl rfl ?b1 ?b2 ?b3 ?_)
  case b1 => rw [hz2]; omega
  case b2 => unfold maxLen; omega
  case b3 => exact Nat.le_refl _
  intro w4 hown hgr
  clear hi hz0 hz1 hz2
  rw [made_nil m (by omega)] at hown
  have Hb4 : Hid (Below wS.heap.size wS w4) := Lib.hid ⟨hgr.os, hgr.tape, hgr.output, hgr.size, fun k hk => hgr.block k hk (by simp)⟩
  have Ho4 := Lib.hid hown
  clear hown hgr
  go_wp2
  go_loopw [13, 53] (fun sv k wr => ∃ (kk : Nat) (xs : List Value), kk ≤ m ∧ k = .int .i64 kk ∧ Hid (Ow wr w.heap.size 38 .i64 sv (slv s p x t m (min kk (m - 1)))) ∧ Hid (wr.ownsRow wS.heap.size 26 1 (.slice (some ⟨wS.heap.size, 0, none⟩) m m) m xs) ∧ Hid (OwS wr wS.heap.size 38 .i64 xs (plS s p x t m kk)) ∧ Hid (∀ j, j + kk < m → xs[j]? = some (.slice none 0 0)) ∧ Hid (Below wS.heap.size wS wr)) (fun _ k _ => m - (intOf k).toNat)
  case atStart =>
    refine ⟨0, _, Nat.zero_le _, rfl, ?_, Ho4.out, ?_, ?_, Hb4.out⟩
    · rw [Nat.zero_min]; exact Hs0.out.kept Hb4.out
    · refine ⟨by simp [plS], fun i hi => ?_⟩
      have hi' : i < m := by simpa [plS] using hi
      have e1 : (List.replicate m (Value.slice none 0 0))[i]?.getD undef = .slice none 0 0 := by simp [List.getElem?_replicate, hi']
      have e2 : (plS s p x t m 0)[i]?.getD [] = [] := by simp [plS, hi']
      rw [e1, e2]
      exact World.ownsRow_nil _ _ _ _
    · intro j hj
      rw [List.getElem?_replicate, if_pos (by omega)]
  case round =>
    rename World => wk
    obtain ⟨kk, xs, hkk, rfl, hsv, hrow, hos, hnil, hb⟩ := hrel
    by_cases hlt : kk < m
    · obtain ⟨i, hi⟩ : ∃ i, m - 1 - kk = i := ⟨_, rfl⟩
      have him : i < m := by omega
      have hii : (m : Int) - 1 - (kk : Int) = (i : Int) := by omega
      have hm1 : i + 1 = m - kk := by omega
      obtain ⟨_, q1, q2⟩ := HS.out.szv (i := i) (by rw [HM.out]; omega)
      obtain ⟨_, r1, r2⟩ := HS.out.szv (i := i + 1) (by rw [HM.out]; omega)
      have hmin : min kk (m - 1) = kk := by omega
      rw [hmin] at hsv
      have Hsl := Lib.hid (slv_len s p x t m kk (by omega))
      have HIs := Lib.hid (A64_slv s p x t m kk)
      have Hps : Hid (partS s p x t m i = prods (slv s p x t m kk) (val s p x i) ++ slv s p x t m kk) := Lib.hid (by unfold partS; rw [show m - 1 - i = kk by omega])
      have Hpl := Lib.hid (plS_set s p x t m kk hlt)
      have Hbk : Hid (kk + 1 < m → slv s p x t m (kk + 1) = backs (slv s p x t m kk) (lA s p i) (szN s (i + 1)) (szN s i) (val s p x i) (szN s i)) := Lib.hid (fun _ => by simp only [slv]; rw [hi])
      rw [hi] at Hpl
      have hsl' := Hsl.out
      rw [← hm1] at hsl'
      unfold Ow at hsv
      rw [hsl'] at hsv
      clear Hsl
      have Hsll := Lib.hid hsl'
      obtain ⟨asl, csl, rfl, _, hslb⟩ := ownsRow_form hsv.out
      have Hslr := Lib.hid (Ow.rd (n := szN s (i + 1)) (a := asl) (c := csl) (l := slv s p x t m kk) (Ow.of hsv.out) (by omega))
      obtain ⟨ai, ci, hxi, hri, hbi⟩ := HosS.out.rd (i := i) (n := szN s i) (by simp [vals]; omega) (by rw [show (vals s p x (m + 1))[i]?.getD [] = val s p x i by simp [vals, show i < m + 1 by omega]]; exact Hvl.out i) (by omega)
      rw [show (vals s p x (m + 1))[i]?.getD [] = val s p x i by simp [vals, show i < m + 1 by omega]] at hri
      have Hai := Lib.hid hri
      have Hbi := Lib.hid hbi
      obtain ⟨gv', e', hgvB, hgvl, hcvi, _⟩ := ownsRow_at HrowS.out (i := i) (by omega)
      cases e'
      rw [hxi] at hcvi
      have cvi : wk.cell? ⟨gv, i, none⟩ = some (.slice ai (szN s i) ci) := (hb.out.cell (p := ⟨gv, i, none⟩) hgvl).trans hcvi
      have Hxi := Lib.hid (set_self (hnil.out i (by omega)))
      have hzr := hb.out.size
      have HPk : Hid (wS.heap.size < wk.heap.size) := Lib.hid (by obtain ⟨_, e'', _, hPk, _, _⟩ := ownsRow_at hrow.out him; cases e''; exact hPk)
      have HslP : Hid (∀ y, asl = some y → ¬ y.block = wS.heap.size) := Lib.hid (fun y hy e => by
        have h5 := own_ne hsv.out hrow.out (by decide)
        subst hy
        rcases h5 with h5 | h5
        · simp [Value.ownBlock] at h5
        · simp [Value.ownBlock, e] at h5)
      clear hxi hri hbi hcvi hsl' hslb hmin hi
      generalize hR : szN s (i + 1) = R at *
      generalize hC : szN s i = C at *
      have HR := Lib.hid hR
      have HC := Lib.hid hC
      generalize hvi : val s p x i = vi at *
      generalize hsk : slv s p x t m kk = sk at *
      have Hvl2 : Hid (vi.length = C) := Lib.hid Hai.out.1
      have IVi : Hid (A64 vi) := Lib.hid (by rw [← hvi]; exact IV.out i)
      have Hvi := Lib.hid hvi
      have Hsk := Lib.hid hsk
      clear hvi hsk hR hC
      go_wp2
      go_loopw [67] (fun j wi => ∃ (oo : Nat) (v' : Value), oo ≤ R ∧ j = .int .i64 oo ∧ Hid (wi.ownsRow wS.heap.size 26 1 (.slice (some ⟨wS.heap.size, 0, none⟩) m m) m (xs.set i v')) ∧ Hid (Ow wi wk.heap.size 38 .i64 v' (prods (sk.take oo) vi)) ∧ Hid (Chg (fun b => b = wS.heap.size) wk wi)) (fun j _ => R - (intOf j).toNat)
      case atStart => exact ⟨0, .slice none 0 0, Nat.zero_le _, rfl, by rw [Hxi.out]; exact hrow.out, World.ownsRow_nil _ _ _ _, Chg.refl _ _⟩
      case round =>
        rename World => wa
        obtain ⟨oo, v', hoo, rfl, hrow2, hv2, hc2⟩ := hrel
        by_cases hlt2 : oo < R
        · have HBa := Lib.hid (hb.out.trans (hc2.out.below (B := wS.heap.size) hzr (by rintro k rfl; exact Nat.le_refl _)))
          obtain ⟨bs, os, rfl, hbs, hcs⟩ := (Hslr.out.chg hc2.out HslP.out).at hlt2
          have hIs := HIs.out oo
          have Hpst := Lib.hid (prods_step sk vi oo (by rw [Hslr.out.1]; exact hlt2))
          have hza := HBa.out.size
          have hzk := hc2.out.size
          generalize hso : sk[oo]?.getD 0 = so at *
          clear hso
          go_wp2
          go_loopw [73] (fun j wi => ∃ (aa : Nat) (v'' : Value), aa ≤ C ∧ j = .int .i64 aa ∧ Hid (wi.ownsRow wS.heap.size 26 1 (.slice (some ⟨wS.heap.size, 0, none⟩) m m) m (xs.set i v'')) ∧ Hid (Ow wi wk.heap.size 38 .i64 v'' (prods (sk.take oo) vi ++ (vi.take aa).map fun b => near32 (so * b))) ∧ Hid (Chg (fun b => b = wS.heap.size) wk wi)) (fun j _ => C - (intOf j).toNat)
          case atStart => exact ⟨0, v', Nat.zero_le _, rfl, hrow2.out, Lib.hid (by simpa using hv2.out), hc2.out⟩
          case round =>
            rename World => wb
            obtain ⟨aa, v'', haa, rfl, hrow3, hv3, hc3⟩ := hrel
            by_cases hlt3 : aa < C
            · have HBb := Lib.hid (hb.out.trans (hc3.out.below (B := wS.heap.size) hzr (by rintro k rfl; exact Nat.le_refl _)))
              obtain ⟨bv, ov, rfl, hbv, hcv2⟩ := Hai.out.at hlt3
              have cv2 : wb.cell? ⟨bv, ov + aa, none⟩ = some (.int .i64 (vi[aa]?.getD 0)) := (HBb.out.cell (p := ⟨bv, ov + aa, none⟩) hbv).trans hcv2
              have hIv := IVi.out aa
              have Hms := Lib.hid (map_step (fun b => near32 (so * b)) vi aa (by rw [Hvl2.out]; exact hlt3))
              obtain ⟨gP, e', _, hPlt, hPc, hPf⟩ := ownsRow_at hrow3.out him
              cases e'
              rw [List.getElem?_set_self (by rw [hrow.out.1]; omega)] at hPc
              have hlen3 : (prods (sk.take oo) vi ++ (vi.take aa).map fun b => near32 (so * b)).length = oo * C + aa := by
                rw [List.length_append, prods_len, List.length_map, List.length_take, List.length_take, Hslr.out.1, Hvl2.out]
                rw [Nat.min_eq_left (by omega), Nat.min_eq_left (by omega)]
              have hoc : oo * C ≤ 64 * 64 := Nat.mul_le_mul (by omega) q2
              have hzb := HBb.out.size
              have hzkb := hc3.out.size
              have Hv3' : Hid (wb.ownsRow wk.heap.size 38 1 v'' (oo * C + aa) ((prods (sk.take oo) vi ++ (vi.take aa).map fun b => near32 (so * b)).map (Value.int .i64))) := Lib.hid (by have := hv3.out; unfold Ow at this; rw [hlen3] at this; exact this)
              clear hlen3 hcv2
              generalize hPL : prods (sk.take oo) vi ++ (vi.take aa).map (fun b => near32 (so * b)) = PL at *
              have HPL := Lib.hid hPL
              clear hPL
              generalize hav : vi[aa]?.getD 0 = av at *
              have HMu := Lib.hid (fun w' => uMul_nil so av w' hIs hIv)
              generalize hmv : near32 (so * av) = mv at *
              have Hmv := Lib.hid hmv
              clear hav hmv hIv
              have hnnb : oo * C + aa ≤ 5000 := by omega
              generalize oo * C + aa = nn at *
              have hT : Hid True := Lib.hid trivial
              go_wp2
              go_region_law
                (first
                  | (refine step_of_op (o := { dst := some 88, op := Op.call { callee := Callee.builtin Builtin.append, args := #[Operand.tmp 82, Operand.tmp 87], argTypes := #[26, 26] }, type := _, pos := _, after := _, guard := none }) rfl (op_app eFs (.tmp 82) (.tmp 87) rfl wk.heap.size v'' nn (PL.map (Value.int .i64)) rfl (by exact ownsRow_kept Hv3'.out (by (repeat first | assumption | exact Below.refl _ _ | refine Below.drew ?_ | refine Below.drewN ?_ _ | refine Below.alloc ?_ (by (first | omega | (simp; done) | (simp; omega))) _ | refine Below.setCell ?_ (by (first | omega | (simp; done) | (simp; omega))) _ | refine Below.trans ?_ (Below.mono (by assumption) (by (first | omega | (simp; done) | (simp; omega))))))) w5.heap.size [.int .i64 mv] rfl rfl (by intro j u hj; rcases j with _ | j <;> simp at hj; subst hj; exact World.cell?_alloc_at _ _ _ _ rfl) (by intro u hu; simp at hu; subst hu; rfl) (by unfold maxLen; omega) (by omega) (by simp; omega) ?_); intro v6 w6 hown6 hgr6; obtain ⟨a6, c6, rfl, _, _⟩ := ownsRow_form hown6; have hrow6 := kept_two hrow3.out Hv3'.out (by decide) (by (repeat first | assumption | exact Below.refl _ _ | refine Below.drew ?_ | refine Below.drewN ?_ _ | refine Below.alloc ?_ (by (first | omega | (simp; done) | (simp; omega))) _ | refine Below.setCell ?_ (by (first | omega | (simp; done) | (simp; omega))) _ | refine Below.trans ?_ (Below.mono (by assumption) (by (first | omega | (simp; done) | (simp; omega)))))) hgr6; have hch6 := chg_two hc3.out Hv3'.out (Nat.le_refl _) (by (repeat first | assumption | exact Below.refl _ _ | refine Below.drew ?_ | refine Below.drewN ?_ _ | refine Below.alloc ?_ (by (first | omega | (simp; done) | (simp; omega))) _ | refine Below.setCell ?_ (by (first | omega | (simp; done) | (simp; omega))) _ | refine Below.trans ?_ (Below.mono (by assumption) (by (first | omega | (simp; done) | (simp; omega)))))) hgr6; obtain ⟨gP6, e6, _, hPlt6, hPc6, hPf6⟩ := ownsRow_at hrow6 him; cases e6; rw [List.getElem?_set_self (by rw [hrow.out.1]; omega)] at hPc6)
                  | (refine step_of_op (o := { dst := some 86, op := _, type := _, pos := _, after := _, guard := none }) rfl ?_; go_simp; go_at_call 50; refine (HMu.out _).mono ?_; rintro e w5 ⟨rfl, hb5⟩; have hz5 := hb5.size; obtain ⟨hc5, hf5⟩ := bcell hb5; (try simp at hz5 hc5 hf5); have hlt5 : wS.heap.size < w5.heap.size := (by omega); dsimp only))
              all_goals
                have Hset := Lib.hid (ownsRow_set hrow6 him (.slice a6 (nn + 1) c6))
                rw [List.set_set] at Hset
                have Hch7 := Lib.hid (hch6.setCell_in ⟨wS.heap.size, i, none⟩ (show wS.heap.size = wS.heap.size from rfl) (.slice a6 (nn + 1) c6))
                have Hv7 := Lib.hid (ownsRow_chg hown6 ((Chg.refl (fun k => k = wS.heap.size) w6).setCell_in ⟨wS.heap.size, i, none⟩ (show wS.heap.size = wS.heap.size from rfl) (.slice a6 (nn + 1) c6)) (by rintro k rfl; exact HPk.out))
                clear hrow6 hch6 hown6 hgr6 hb5 hc5 hf5
                go_wp2
                go_roundw
                case rel => exact ⟨aa + 1, _, by omega, by go_num, Hset.out, Lib.hid (by rw [Hms.out, ← List.append_assoc, HPL.out]; exact Ow.of (n := nn + 1) (by simpa using Hv7.out)), Hch7.out⟩
                case measure => simp [intOf]; omega
            · obtain rfl : aa = C := by omega
              have Hfin : Hid (prods (sk.take (oo + 1)) vi = prods (sk.take oo) vi ++ (vi.take aa).map fun b => near32 (so * b)) := Lib.hid (by rw [Hpst.out, List.take_of_length_le (l := vi) (i := aa) (by rw [Hvl2.out]; exact Nat.le_refl _)])
              go_wp2
              go_roundw
              case rel => exact ⟨oo + 1, v'', by omega, by go_num, hrow3.out, Lib.hid (by rw [Hfin.out]; exact hv3.out), hc3.out⟩
              case measure => simp [intOf]; omega
        · obtain rfl : oo = R := by omega
          have HBa := Lib.hid (hb.out.trans (hc2.out.below (B := wS.heap.size) hzr (by rintro k rfl; exact Nat.le_refl _)))
          have Hsla := Lib.hid (Hslr.out.chg hc2.out HslP.out)
          obtain ⟨gP, e', _, hPlt, hPc, hPf⟩ := ownsRow_at hrow2.out him
          cases e'
          rw [List.getElem?_set_self (by rw [hrow.out.1]; omega)] at hPc
          have hpl : (prods (sk.take oo) vi).length = oo * C := by
            rw [prods_len, List.length_take, Hslr.out.1, Hvl2.out, Nat.min_self]
          have hoc : oo * C ≤ 64 * 64 := Nat.mul_le_mul (by omega) q2
          have htk : Hid (sk.take oo = sk) := Lib.hid (List.take_of_length_le (l := sk) (i := oo) (by rw [Hslr.out.1]; exact Nat.le_refl _))
          rw [htk.out] at hpl hv2
          have Hv2' : Hid (wa.ownsRow wk.heap.size 38 1 v' (oo * C) ((prods sk vi).map (Value.int .i64))) := Lib.hid (by have := hv2.out; unfold Ow at this; rw [hpl] at this; exact this)
          obtain ⟨bs0, os0, rfl, _, _⟩ := Hsla.out.at (i := 0) (by omega)
          clear hpl
          have hzka := hc2.out.size
          go_wp2_with (at_builtin; refine wpl_appN eFs rfl _ _ rfl wk.heap.size v' (oo * C) ((prods sk vi).map (Value.int .i64)) rfl Hv2'.out .i64 _ _ _ sk rfl Hsla.out ?d1 ?d2 ?d3 ?d4 ?_)
          case d1 => intro h; cases h
          case d2 => unfold maxLen; omega
          case d3 => omega
          case d4 => exact hzka
          intro v6 w6 hown6 hgr6
          obtain ⟨a6, c6, rfl, _, _⟩ := ownsRow_form hown6
          have hrow6 := kept_two hrow2.out Hv2'.out (by decide) (Below.refl _ _) hgr6
          have hch6 := chg_two hc2.out Hv2'.out (Nat.le_refl _) (Below.refl _ _) hgr6
          obtain ⟨gP6, e6, _, hPlt6, hPc6, hPf6⟩ := ownsRow_at hrow6 him
          cases e6
          rw [List.getElem?_set_self (by rw [hrow.out.1]; omega)] at hPc6
          have Hset := Lib.hid (ownsRow_set hrow6 him (.slice a6 (oo * C + oo) c6))
          rw [List.set_set] at Hset
          have Hch7 := Lib.hid (hch6.setCell_in ⟨wS.heap.size, i, none⟩ (show wS.heap.size = wS.heap.size from rfl) (.slice a6 (oo * C + oo) c6))
          have Hv7 : Hid (Ow (w6.setCell ⟨wS.heap.size, i, none⟩ (.slice a6 (oo * C + oo) c6)) wS.heap.size 38 .i64 (.slice a6 (oo * C + oo) c6) (partS s p x t m i)) := Lib.hid (by
            rw [Hps.out]
            exact ownsRow_mono (Ow.of (n := oo * C + oo) (by simpa using ownsRow_chg hown6 ((Chg.refl (fun k => k = wS.heap.size) w6).setCell_in ⟨wS.heap.size, i, none⟩ (show wS.heap.size = wS.heap.size from rfl) (.slice a6 (oo * C + oo) c6)) (by rintro k rfl; exact HPk.out))) hzr)
          have HB7 := Lib.hid (hb.out.trans (Hch7.out.below (B := wS.heap.size) hzr (by rintro k rfl; exact Nat.le_refl _)))
          have Hos7 := Lib.hid ((hos.out.chgP hrow.out (by decide) Hch7.out).set (i := i) Hv7.out)
          rw [← Hpl.out] at Hos7
          have Hsv7 := Lib.hid (ownsRow_chgP hsv.out hrow.out (by decide) Hch7.out)
          have Hnil7 : Hid (∀ j, j + (kk + 1) < m → (xs.set i (.slice a6 (oo * C + oo) c6))[j]? = some (.slice none 0 0)) := Lib.hid (fun j hj => by
            rw [List.getElem?_set_ne (by omega)]; exact hnil.out j (by omega))
          have hgS : g < wS.heap.size := by have := HbS.out.size; omega
          have HBw6 : Hid (Below w.heap.size w w6) := Lib.hid (HbS.out.trans ((hb.out.trans (hch6.below (B := wS.heap.size) hzr (by rintro k rfl; exact Nat.le_refl _))).mono (by have := HbS.out.size; omega)))
          have k0 := (HBw6.out.cell (p := ⟨g, i * 4, none⟩) hg).trans (HL.out i him 0 (by omega))
          have k1 := (HBw6.out.cell (p := ⟨g, i * 4 + 1, none⟩) hg).trans (HL.out i him 1 (by omega))
          have k2 := (HBw6.out.cell (p := ⟨g, i * 4 + 2, none⟩) hg).trans (HL.out i him 2 (by omega))
          have k3 := (HBw6.out.cell (p := ⟨g, i * 4 + 3, none⟩) hg).trans (HL.out i him 3 (by omega))
          simp only [layC, List.getElem?_cons_zero, List.getElem?_cons_succ] at k0 k1 k2 k3
          rw [HR.out] at k0 k2 k3
          rw [HC.out] at k1 k2 k3
          have Hf := Lib.hid (fst_succ s i)
          have Hfm := Lib.hid (fst_mono s (i := i + 1) (j := m) (by omega))
          rw [Hnp.out, Hf.out, HR.out, HC.out] at Hfm
          have HBk := Lib.hid (fun w' (hbw : Below w.heap.size w w') (hs' : Rd w' .i64 (some ⟨bs0, os0, none⟩) oo sk) (hv' : Rd w' .i64 ai C vi) => back_any oo C (oo * C) oo (some ⟨b, o + fst s i, none⟩) (oo * C) (lA s p i) (some ⟨b, o + fst s i + oo * C, none⟩) oo (some ⟨bs0, os0, none⟩) csl sk ai ci vi w'
            (by have h7 := (HP.out.kept hbw).cut (fst s i) (fst s i + oo * C) (by omega) (by have := Hfm.out; omega) (a' := some ⟨b, o + fst s i, none⟩) (fun _ b' o' e => by cases e; rfl)
                rw [Nat.add_sub_cancel_left] at h7
                unfold lA
                rw [HR.out, HC.out]
                exact h7)
            hs' hv' rfl r2 q2 (A64_sub IP.out _ _) HIs.out)
          have Hs7 := Lib.hid (Hslr.out.chg Hch7.out HslP.out)
          have Hv7' := Lib.hid (Hai.out.kept HB7.out)
          have HBw7 : Hid (Below w.heap.size w (w6.setCell ⟨wS.heap.size, i, none⟩ (.slice a6 (oo * C + oo) c6))) := Lib.hid (HbS.out.trans (HB7.out.mono (by have := HbS.out.size; omega)))
          clear hrow6 hch6 hown6 hgr6
          generalize oo * C = oc at *
          by_cases hi0 : i = 0
          · have hmin2 : min (kk + 1) (m - 1) = kk := by omega
            subst hi0
            go_wp2
            go_roundw
            case rel => exact ⟨kk + 1, _, by omega, by go_num, Lib.hid (by rw [hmin2, Hsk.out]; exact Ow.of Hsv7.out), Hset.out, Hos7.out, Hnil7.out, HB7.out⟩
            case measure => simp [intOf]; omega
          · have hmin2 : min (kk + 1) (m - 1) = kk + 1 := by omega
            have hipos : 0 < i := by omega
            go_wp2_with fail
            ((with_reducible refine (HBk.out _ HBw7.out Hs7.out Hv7'.out).mono ?_); rintro e w8 ⟨z8, rfl, ho8, hb8⟩)
            have Ho8 : Hid (Ow w8 w.heap.size 38 .i64 z8 (slv s p x t m (min (kk + 1) (m - 1)))) := Lib.hid (by rw [hmin2, Hbk.out (by omega)]; exact ho8.mono HBw7.out.size)
            have Hset8 := Lib.hid (ownsRow_kept Hset.out hb8)
            have Hos8 := Lib.hid (Hos7.out.kept hb8)
            have HB8 := Lib.hid (HB7.out.trans (hb8.mono HB7.out.size))
            clear ho8 hb8
            go_wp2
            go_roundw
            case rel => exact ⟨kk + 1, _, by omega, by go_num, Ho8.out, Hset8.out, Hos8.out, Hnil7.out, HB8.out⟩
            case measure => simp [intOf]; omega
    · obtain rfl : kk = m := by omega
      have hzr := hb.out.size
      have hzSw := HbS.out.size
      have Hpl : Hid (∀ q, q < kk → (plS s p x t kk kk)[q]?.getD [] = partS s p x t kk q) := Lib.hid (fun q hq => by simp [plS, hq]; omega)
      have Hpll : Hid ((plS s p x t kk kk).length = kk) := Lib.hid (by simp [plS])
      have Hpn : Hid (∀ q, q < kk → (partS s p x t kk q).length ≤ 4160) := Lib.hid (fun q hq => by
        unfold partS
        rw [List.length_append, prods_len, slv_len _ _ _ _ _ _ (by omega), Hvl.out]
        have h1 := HS.out.szv (i := q) (by rw [HM.out]; omega)
        have h2 := HS.out.szv (i := kk - (kk - 1 - q)) (by rw [HM.out]; omega)
        have h3 : szN s (kk - (kk - 1 - q)) * szN s q ≤ 64 * 64 := Nat.mul_le_mul (by omega) (by omega)
        omega)
      go_wp2
      go_loopw [22, 114] (fun lv j wi => ∃ (q : Nat), q ≤ kk ∧ j = .int .i64 q ∧ Hid (wi.ownsRow wk.heap.size 38 1 lv ((List.range q).flatMap (partS s p x t kk)).length (((List.range q).flatMap (partS s p x t kk)).map (Value.int .i64))) ∧ Hid (((List.range q).flatMap (partS s p x t kk)).length ≤ q * 4160) ∧ Hid (Below wk.heap.size wk wi)) (fun _ j _ => kk - (intOf j).toNat)
      case atStart => exact ⟨0, Nat.zero_le _, rfl, World.ownsRow_nil _ _ _ _, Lib.hid (by simp), Below.refl _ _⟩
      case round =>
        rename World => wq
        obtain ⟨q, hq, rfl, hown, hqn, hbq⟩ := hrel
        by_cases hlt2 : q < kk
        · obtain ⟨ap, cp, hxq, hrq, hbp⟩ := hos.out.rd (i := q) (n := (partS s p x t kk q).length) (by rw [Hpll.out]; exact hlt2) (by rw [Hpl.out q hlt2]) (by have := Hpn.out q hlt2; omega)
          rw [Hpl.out q hlt2] at hrq
          obtain ⟨gP, e', _, hPlt, hPc, hPf⟩ := ownsRow_at hrow.out (i := q) (by omega)
          cases e'
          rw [hxq] at hPc
          have hPc' : wq.cell? ⟨wS.heap.size, q, none⟩ = some (.slice ap (partS s p x t kk q).length cp) := (hbq.out.cell (p := ⟨wS.heap.size, q, none⟩) hPlt).trans hPc
          have Hrq := Lib.hid (hrq.kept hbq.out)
          have hpn := Hpn.out q hlt2
          have hpp : 0 < (partS s p x t kk q).length := by
            unfold partS
            rw [List.length_append, slv_len _ _ _ _ _ _ (by omega)]
            have := (HS.out.szv (i := kk - (kk - 1 - q)) (by rw [HM.out]; omega)).2.1
            omega
          obtain ⟨bp, op, rfl, _, _⟩ := hrq.at (i := 0) hpp
          have Hfl : Hid ((List.range (q + 1)).flatMap (partS s p x t kk) = (List.range q).flatMap (partS s p x t kk) ++ partS s p x t kk q) := Lib.hid (by simp [List.range_succ, List.flatMap_append])
          have hqn' := hqn.out
          have hzq := hbq.out.size
          clear hxq hrq hbp hPc hpp
          generalize partS s p x t kk q = part at *
          generalize (List.range q).flatMap (partS s p x t kk) = L at *
          go_wp2_with (at_builtin; refine wpl_appN eFs rfl _ _ rfl wk.heap.size _ L.length (L.map (Value.int .i64)) rfl hown.out .i64 _ _ _ part rfl Hrq.out ?d1 ?d2 ?d3 ?d4 ?_)
          case d1 => intro h; cases h
          case d2 => unfold maxLen; omega
          case d3 => omega
          case d4 => exact hzq
          intro v6 w6 hown6 hgr6
          have Hb6 := Lib.hid (Below.grownOf hbq.out hown.out hgr6 hzq)
          have Hown6 : Hid (w6.ownsRow wk.heap.size 38 1 v6 ((List.range (q + 1)).flatMap (partS s p x t kk)).length (((List.range (q + 1)).flatMap (partS s p x t kk)).map (Value.int .i64))) := Lib.hid (by rw [Hfl.out, List.length_append, List.map_append]; exact hown6)
          have Hn6 : Hid (((List.range (q + 1)).flatMap (partS s p x t kk)).length ≤ (q + 1) * 4160) := Lib.hid (by rw [Hfl.out, List.length_append]; omega)
          clear hown6 hgr6
          go_wp2
          go_roundw
          case rel => exact ⟨q + 1, by omega, by go_num, Hown6.out, Hn6.out, Hb6.out⟩
          case measure => simp [intOf]; omega
        · obtain rfl : q = kk := by omega
          have Hfin := Lib.hid (HbS.out.trans ((hb.out.trans (hbq.out.mono hzr)).mono hzSw))
          have Hof : Hid (Ow wq w.heap.size 38 .i64 _ (gradS s p x t q)) := Lib.hid (ownsRow_mono (Ow.of hown.out) (by omega))
          go_wp2
          go_ret2
          exact ⟨_, rfl, Hof.out, Hfin.out⟩
end Go.Proofs.Ythingodgjeicpaa
