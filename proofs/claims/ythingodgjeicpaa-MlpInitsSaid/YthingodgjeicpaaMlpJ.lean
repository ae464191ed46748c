/-
  Layer mlp: what a net comes to, and its gradient, where sizes and lists go together.
-/
import Derived.Test.YthingodgjeicpaaMlpI
namespace Go.Proofs.Ythingodgjeicpaa
open Go.RowKit
set_option linter.unusedVariables false
set_option linter.unusedSimpArgs false

theorem lays_of {w : World} {B b o m : Nat} {E : TypeId} {s : List Int} {v : Value} {xs : List Value} (h : w.ownsRow B E 4 v m xs) (hx : LayX b o s xs m) (hm : 0 < m) :
    ∃ g c, v = .slice (some ⟨g, 0, none⟩) m c ∧ B ≤ g ∧ g < w.heap.size ∧ LaysAt w g b o s m := by
  rcases h.2 with ⟨e, e2⟩ | ⟨g, cap, cur, rfl, hb, hg, hc, hmx, hsz, ht⟩
  · omega
  · refine ⟨g, cap, rfl, hb, lt_of_block hg, fun i hi t ht' => ?_⟩
    rw [← hx.2 i hi t ht']
    have hlt : i * 4 + t < xs.length := by rw [hx.1]; omega
    have := World.ownsRow.cells h (g := g) rfl (i * 4 + t) (xs[i * 4 + t]) (List.getElem?_eq_getElem hlt)
    rw [List.getElem?_eq_getElem hlt]
    rw [← this]
    simp only [Addr.add, Nat.zero_add]
    split <;> simp_all

/-- Sizes, parameters, an input that go together. -/
structure NetOk (s p x : List Int) (m : Nat) : Prop where
  hs : okS s
  hm : s.length = m + 1
  hp : p.length = cntN s
  hx : x.length = szN s 0
  ip : A64 p
  ix : A64 x
theorem NetOk.m_pos {s p x : List Int} {m : Nat} (h : NetOk s p x m) : 1 ≤ m ∧ m ≤ 5 := by have := h.hs.1; have := h.hs.2.1; have := h.hm; omega
theorem NetOk.p_pos {s p x : List Int} {m : Nat} (h : NetOk s p x m) : 0 < p.length := by
  have h0 := h.m_pos
  have h1 := h.hs.szv (i := 0 + 1) (by have := h.hm; omega)
  have := fst_mono s (i := 0 + 1) (j := m) (by omega)
  rw [fst_succ] at this
  have h3 : cntN s = fst s m := by unfold cntN; rw [h.hm, Nat.add_sub_cancel]
  rw [h.hp, h3]
  omega
theorem cnt_bd {s : List Int} (h : okS s) : cntN s ≤ 30000 := by
  have h6 := h.2.1
  have h2 := h.1
  have := fst_bd (s := s) (m := s.length) (fun j hj => (h.2.2 j hj).2) (s.length - 1) (by omega)
  unfold cntN
  have : (s.length - 1) * 4160 ≤ 5 * 4160 := Nat.mul_le_mul_right _ (by omega)
  omega

set_option maxHeartbeats 3200000 in
set_option maxRecDepth 100000 in
theorem Gradient_ok (aS : Option Addr) (ns cS : Nat) (s : List Int) (ap : Option Addr) (np cp : Nat) (p : List Int) (ax : Option Addr) (nx cx : Nat) (x : List Int) (aT : Option Addr) (nt cT : Nat) (t : List Int) (m : Nat) (w : World) (hn : NetOk s p x m)
    (hs : Rd w .i64 aS ns s) (hp : Rd w .i64 ap np p) (hx : Rd w .i64 ax nx x) (ht : Rd w .i64 aT nt t) (hcp : np ≤ cp) (hcm : cp ≤ 9223372036854775807) (hnone : ax = none → cx = 0) (htl : t.length = szN s m) (it : A64 t) :
    Calls Try.prog 14 #[.pointer none, .int .i64 1, .slice aS ns cS, .slice ap np cp, .agg #[.slice ax nx cx, .slice aT nt cT]] w fun e w' => ∃ v, e = .returned (.tuple #[v, .int .i64 (sqFar (val s p x m) t nt), .int .i64 0]) ∧ Ow w' w.heap.size 38 .i64 v (gradS s p x t m) ∧ Below w.heap.size w w' := by
  obtain ⟨b, o, rfl, hbp, _⟩ := hp.2.2 (by rw [← hp.1]; exact hn.p_pos)
  have hm := hn.m_pos
  have hns : ns = m + 1 := by rw [← hs.1]; exact hn.hm
  have HCo := Lib.hid (fun w' (hb' : Below w.heap.size w w') => mCount_any aS ns cS s w' (hs.kept hb'))
  have hce : cnt s = ((cntN s : Int), 0) := by unfold cnt; rw [if_pos hn.hs]
  rw [hce] at HCo
  have HSh := Lib.hid (fun w' (hb' : Below w.heap.size w w') => shaped_any aS ns cS s (some ⟨b, o, none⟩) np cp w' (hs.kept hb') (by have := hp.2.1; omega))
  have he : shp s np = 0 := by unfold shp; rw [if_pos hn.hs, if_pos (by rw [← hp.1]; exact hn.hp)]
  rw [he] at HSh
  have Hof := Lib.hid (fun w => of_sq w)
  obtain ⟨bs, os, rfl, hbs, hcs⟩ := hs.at (i := 0) (by omega)
  obtain ⟨bs', os', e', _, hcm'⟩ := hs.at (i := m) (by omega)
  cases e'
  have hs0 := hn.hs.szv (i := 0) (by rw [hn.hm]; omega)
  have hsm := hn.hs.szv (i := m) (by rw [hn.hm]; omega)
  rw [hs0.1, Nat.add_zero] at hcs
  rw [hsm.1] at hcm'
  have hnx : nx = szN s 0 := by rw [← hx.1]; exact hn.hx
  have hnt : nt = szN s m := by rw [← ht.1]; exact htl
  have HLy := Lib.hid (fun w' (hb' : Below w.heap.size w w') => layers_any (some ⟨bs, os, none⟩) ns cS s b o np cp w' (hs.kept hb') hn.hs (by rw [← hp.1]; exact hn.hp.symm) hcp hcm)
  have HG := Lib.hid (fun g cl w' (hb' : Below w.heap.size w w') (hg : g < w'.heap.size) (hL : LaysAt w' g b o s m) => gradient_any g cl m b o np s p ax nx cx x aT nt cT t w' hg hL hn.hs hn.hm (hp.kept hb') (by rw [← hp.1]; exact hn.hp.symm) (hx.kept hb') hnx hnone hn.ip hn.ix (ht.kept hb') hnt it)
  subst hns
  rw [Nat.add_sub_cancel] at HLy
  subst hnx
  subst hnt
  have Hm := Lib.hid hm
  have hm5 : m ≤ 5 := hm.2
  clear hn hs hp hx ht hs0 hsm he htl it hbp hce
  generalize szN s 0 = q0 at *
  generalize szN s m = qm at *
  go_enter Try.func14, Try.ntmps14
  go_wp2_with first
    | ((with_reducible refine (HCo.out _ (by (repeat first | assumption | exact Below.refl _ _ | refine Below.drew ?_ | refine Below.drewN ?_ _ | refine Below.alloc ?_ (by (first | omega | (simp; done) | (simp; omega))) _ | refine Below.setCell ?_ (by (first | omega | (simp; done) | (simp; omega))) _ | refine Below.trans ?_ (Below.mono (by assumption) (by (first | omega | (simp; done) | (simp; omega))))))).mono ?_); rintro e w1 ⟨rfl, rfl⟩)
    | ((with_reducible refine (Hof.out _).mono ?_); rintro e w1 ⟨rfl, rfl⟩)
    | fail
  have hwm : IntKind.i64.wrap (m : Int) = (m : Int) := by rw [IntKind.wrap_i64]; omega
  have hmlt : m < m + 1 := by omega
  have hm0i : (0 : Int) ≤ (m : Int) := by omega
  have hm1i : (m : Int) < (m : Int) + 1 := by omega
  have hwm2 : IntKind.i64.wrap ((m : Int) + 1 - 1) = (m : Int) := by rw [IntKind.wrap_i64]; omega
  go_region_held3 (fun w' => w'.cell? ⟨w.heap.size, 0, none⟩ = some (.slice ax q0 cx) ∧ w'.cell? ⟨w.heap.size, 1, none⟩ = some (.slice aT qm cT) ∧ w'.cell? ⟨bs, os, none⟩ = some (.int .i64 (q0 : Int)) ∧ w'.cell? ⟨bs, os + m, none⟩ = some (.int .i64 (qm : Int)))
    (first | assumption | go_keep)
    (first
      | (go_at_call 22; refine (HSh.out _ (by (repeat first | assumption | exact Below.refl _ _ | refine Below.drew ?_ | refine Below.drewN ?_ _ | refine Below.alloc ?_ (by (first | omega | (simp; done) | (simp; omega))) _ | refine Below.setCell ?_ (by (first | omega | (simp; done) | (simp; omega))) _ | refine Below.trans ?_ (Below.mono (by assumption) (by (first | omega | (simp; done) | (simp; omega))))))).mono ?_; rintro e w1 ⟨rfl, rfl⟩))
  go_wp2
  go_region_with first
    | ((with_reducible refine (HLy.out _ (by (repeat first | assumption | exact Below.refl _ _ | refine Below.drew ?_ | refine Below.drewN ?_ _ | refine Below.alloc ?_ (by (first | omega | (simp; done) | (simp; omega))) _ | refine Below.setCell ?_ (by (first | omega | (simp; done) | (simp; omega))) _ | refine Below.trans ?_ (Below.mono (by assumption) (by (first | omega | (simp; done) | (simp; omega))))))).mono ?_); rintro e w1 ⟨v1, xs1, rfl, hrow1, hx1, hb1⟩; obtain ⟨hc1, hf1⟩ := bcell hb1; have hz1 := hb1.size; (try simp at hz1 hc1 hf1); have hlt1 : w.heap.size < w1.heap.size := (by omega); obtain ⟨gL, cL, rfl, hgB, hgl, hLs⟩ := lays_of hrow1 hx1 (by have := Hm.out; omega); have hbw1 : Below w.heap.size w w1 := (by (repeat first | assumption | exact Below.refl _ _ | refine Below.drew ?_ | refine Below.drewN ?_ _ | refine Below.alloc ?_ (by (first | omega | (simp; done) | (simp; omega))) _ | refine Below.setCell ?_ (by (first | omega | (simp; done) | (simp; omega))) _ | refine Below.trans ?_ (Below.mono (by assumption) (by (first | omega | (simp; done) | (simp; omega)))))))
    | ((with_reducible refine (HG.out gL cL _ (by (repeat first | assumption | exact Below.refl _ _ | refine Below.drew ?_ | refine Below.drewN ?_ _ | refine Below.alloc ?_ (by (first | omega | (simp; done) | (simp; omega))) _ | refine Below.setCell ?_ (by (first | omega | (simp; done) | (simp; omega))) _ | refine Below.trans ?_ (Below.mono (by assumption) (by (first | omega | (simp; done) | (simp; omega)))))) (by exact hgl) (by exact hLs)).mono ?_); rintro e w2 ⟨v2, rfl, ho2, hb2⟩)
    | fail
  all_goals go_wp2
  all_goals go_ret3
  all_goals exact ⟨v2, rfl, ho2.mono (by omega), hbw1.trans (hb2.mono (by omega))⟩
end Go.Proofs.Ythingodgjeicpaa
